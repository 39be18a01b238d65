/- Facts on the functions and types of this seat that its laws are proved from: contracts under the premises that each theorem names. -/
import Derived.Test.YtfjniocobcoepaaEng
set_option linter.unusedSimpArgs false
set_option linter.unusedVariables false
set_option linter.unnecessarySimpa false

/-! ## append of what can be read, wherever it lies -/
namespace PB
open Go Go.RowKit
section
variable {W0 w : World} {L L' A R : List (Nat × MObj)} {b off : Nat} {cs vs : List Value} {e : TypeId} {o : MObj} {P : Program}

theorem run_appendG {s : OS} {xs ys : List Value} {len m c sz bs : Nat} {ay : Option Addr} {t t2 e2 ty : TypeId} {z : Value} (hs : St W0 w (A ++ (s.blk xs e ++ R))) (hok : s.ok xs len sz) (hT : SliceT P t e sz) (hI : TInfo P e (some z) sz bs)
    (hz : z.cells.size = sz) (hT2 : Under P t2 (.slice e2)) (hf : ∀ w1, St W0 w1 (A ++ (s.blk xs e ++ R)) → (Builtin.firstCells sz m (.slice ay m c)).run P w1 = .ok ys.toArray w1) (hylen : ys.length = m * sz) (hone : ys.all oneB = true) (hm : 0 < m ∨ s.a ≠ none) (hb : 0 < bs)
    (hroom : (2 * (len + m) + 1000) * bs ≤ 2 ^ 48) :
    ∃ (s' : OS) (w' : World), (Builtin.append_ #[t, t2] ty #[.slice s.ad len s.cap, .slice ay m c]).run P w = .ok (.slice s'.ad (len + m) s'.cap) w' ∧ s'.ok (xs ++ ys) (len + m) sz ∧ (∃ g, s'.a = some g) ∧ St W0 w' (A ++ (s'.blk (xs ++ ys) e ++ R)) := by
  obtain ⟨inf, hi1, hi2, hi3, hi4⟩ := tinfo_some hI.out
  have hTo := hT.out
  unfold sliceElem at hTo
  have hu : P.underlying t = some (.slice e) := by
    split at hTo
    · rename_i e' hu
      cases hinf : P.info? e' with
      | none => simp [hinf] at hTo
      | some i => simp [hinf] at hTo; rw [hu, hTo.1]
    · cases hTo
  have hu2 := hT2.out
  have hfirst := hf w hs
  by_cases hfit : len + m ≤ s.cap
  · cases ha : s.a with
    | none =>
      have := hok.nil_ ha
      rcases hm with hm | hm
      · omega
      · exact absurd ha hm
    | some g =>
      have hblk : s.blk xs e = [(g, .cells (xs ++ s.sp) e)] := by simp [OS.blk, ha]
      have hsp : m * sz ≤ s.sp.length := by rw [hok.sp_]; exact Nat.mul_le_mul_right _ (by omega)
      have hcs : setRange (xs ++ s.sp) (len * sz + 0) ys = xs ++ (ys ++ s.sp.drop ys.length) := by
        rw [Nat.add_zero, ← hok.len_]; exact setRange_append ys xs s.sp (by omega)
      rw [hblk] at hs
      have hmem : (g, MObj.cells (xs ++ s.sp) e) ∈ A ++ ([(g, MObj.cells (xs ++ s.sp) e)] ++ R) := by simp
      obtain ⟨w', hr, hs', _⟩ := st_storeCells (P := P) (W0 := W0) (b := g) (off := len * sz) (e := e) ys 0 w _ (A ++ ([(g, MObj.cells (setRange (xs ++ s.sp) (len * sz + 0) ys) e)] ++ R)) (xs ++ s.sp) hone hs hmem ⟨A, R, _, by simp; rfl, by simp⟩ (by simp [hok.len_]; omega)
      refine ⟨⟨some g, s.cap, s.sp.drop ys.length⟩, w', ?_, ⟨by simp [hok.len_, hylen, Nat.add_mul], ?_, hfit, fun h => by cases h⟩, ⟨g, rfl⟩, ?_⟩
      · simp only [Builtin.append_, List.getElem?_toArray, List.getElem?_cons_zero, List.getElem?_cons_succ, Sem.run_bind, run_underlying hu, Result.andThen_ok, OS.ad, ha, Option.map_some, Go.sizeOf, typeInfo, run_program, hi1, Sem.run_pure, hi3,
          run_underlying hu2, Builtin.lenOf, Bool.false_eq_true, if_false, hfit, if_true, Bool.not_false, hfirst, addr_add, Nat.zero_add]
        simp only [Result.andThen_ok, hr]
      · simp only [List.length_drop, hok.sp_, hylen]
        rw [← Nat.sub_mul]; congr 1; omega
      · rw [hcs] at hs'
        simpa [OS.blk] using hs'
  · have hnc := nextslicecap_le (len + m) s.cap (by omega)
    have hnc2 : ¬ (Builtin.nextslicecap (len + m) s.cap * inf.bytes > 2 ^ 48) := by
      rw [hi4]
      have := Nat.mul_le_mul_right bs hnc
      omega
    have hold : ∀ w1, St W0 w1 (A ++ (s.blk xs e ++ R)) → (Builtin.firstCells sz len (.slice s.ad len s.cap)).run P w1 = .ok xs.toArray w1 := by
      intro w1 hs1
      cases ha : s.a with
      | none =>
        have := hok.nil_ ha
        have hx : xs = [] := List.length_eq_zero_iff.1 (by rw [hok.len_, this.1]; simp)
        simp [OS.ad, ha, Builtin.firstCells, hx]
      | some g =>
        have hmem : (g, MObj.cells (xs ++ s.sp) e) ∈ A ++ (s.blk xs e ++ R) := by simp [OS.blk, ha]
        have := run_firstCells (P := P) (k := sz) (o := 0) (m := len) (c := s.cap) hs1 hmem (by simp [hok.len_])
        simp only [OS.ad, ha, Option.map_some]
        rw [this]
        simp [← hok.len_]
    have hbig : ¬ (((len + m : Nat) : Int) > IntKind.i64.max ∧ (False ∨ inf.bytes = 0)) := by
      rintro ⟨_, h | h⟩
      · exact h
      · rw [hi4] at h; omega
    let T := (Question.appendCap (len + m) s.cap e).cut (w.tape w.drawn (.appendCap (len + m) s.cap e))
    have hT : len + m ≤ T := by simp only [T, Question.cut]; omega
    let rest := (Builtin.zeroCells z.cells (T - (len + m))).toList
    refine ⟨⟨some w.heap.size, T, rest⟩, w.drew.alloc (MObj.cells (xs ++ ys ++ rest) e).toObj, ?_, ⟨by simp [hok.len_, hylen, Nat.add_mul], ?_, hT, fun h => by cases h⟩, ⟨_, rfl⟩, ?_⟩
    · have hd := hs.drew
      have hf2 := hf _ hd
      have ho2 := hold _ hd
      have hch : (choose (.appendCap (len + m) s.cap e)).run P w = .ok T w.drew := by
        rw [run_choose]; simp [Question.forced, T]
      simp only [Builtin.append_, List.getElem?_toArray, List.getElem?_cons_zero, List.getElem?_cons_succ, Sem.run_bind, run_underlying hu, Result.andThen_ok, Go.sizeOf, typeInfo, run_program, hi1, Sem.run_pure, hi3,
          run_underlying hu2, Builtin.lenOf, Bool.false_eq_true, if_false, hfit, hbig, hnc2, hch, run_askRoom, ho2, hf2, Bool.not_false, if_true, zeroValue, hi2, newRow, run_newObj]
      simp [OS.ad, MObj.toObj, rest]
      show w.drew.alloc _ = w.drew.alloc _
      congr 2
      apply Array.ext'
      simp
    · simp only [rest, length_zeroCells, hz]
    · have h1 := (hs.drew).alloc (.cells (xs ++ ys ++ rest) e)
      have h2 : St W0 (w.drew.alloc (MObj.cells (xs ++ ys ++ rest) e).toObj) (A ++ ((w.heap.size, MObj.cells (xs ++ ys ++ rest) e) :: (s.blk xs e ++ R))) := h1.perm List.perm_middle.symm
      have h3 := h2.sub (L' := A ++ ((w.heap.size, MObj.cells (xs ++ ys ++ rest) e) :: R)) (List.Sublist.append_left (List.Sublist.cons_cons _ (List.sublist_append_right ..)) A)
      simpa [OS.blk] using h3

variable {Q : Exit → Act → World → Prop} {K : Act → World → Prop} {n : Nat} {Γ : Fr} {ρ : Nat → Value} {ds : List Deferred} {ty t : TypeId} {pos : String} {after : Array Edge} {g : Option (Nat × Bool)} {d : Nat} {x y : Operand} {v : Value}

theorem w_appendG {s : OS} {xs ys : List Value} {len m c sz bs : Nat} {ay : Option Addr} {t2 e2 : TypeId} {z : Value} (A : List (Nat × MObj)) (hs : St W0 w (A ++ (s.blk xs e ++ R))) (hok : s.ok xs len sz) [hT : SliceT P t e sz] [hI : TInfo P e (some z) sz bs] [hT2 : Under P t2 (.slice e2)]
    (hx : ev n Γ ρ x = .slice s.ad len s.cap) (hy : ev n Γ ρ y = .slice ay m c) (hz : z.cells.size = sz) (hf : ∀ w1, St W0 w1 (A ++ (s.blk xs e ++ R)) → (Builtin.firstCells sz m (.slice ay m c)).run P w1 = .ok ys.toArray w1) (hylen : ys.length = m * sz) (hone : ys.all oneB = true)
    (hm : 0 < m ∨ s.a ≠ none) (hb : 0 < bs) (hroom : (2 * (len + m) + 1000) * bs ≤ 2 ^ 48)
    (hk : ∀ (s' : OS) w', s'.ok (xs ++ ys) (len + m) sz → (∃ g, s'.a = some g) → St W0 w' (A ++ (s'.blk (xs ++ ys) e ++ R)) → K (act n ((d, .slice s'.ad (len + m) s'.cap) :: Γ) ρ ds) w') :
    OW P ⟨some d, .call ⟨.builtin .append, #[x, y], #[t, t2]⟩, ty, pos, after, g⟩ (act n Γ ρ ds) w K Q := by
  obtain ⟨s', w', hr, hok', hg, hs'⟩ := run_appendG (P := P) (ty := ty) (c := c) hs hok hT hI hz hT2 hf hylen hone hm hb hroom
  constructor
  have hrun : (execOp (ev n Γ ρ) ⟨some d, .call ⟨.builtin .append, #[x, y], #[t, t2]⟩, ty, pos, after, g⟩).run P w = .ok (.value (.slice s'.ad (len + m) s'.cap)) w' := by
    simp [execOp, resolve, invoke, builtin, hx, hy, hr]
  simp only [Oper.wp, eval_act, hrun, Oper.upon_value, put_act]
  exact hk s' w' hok' hg hs'

/-- The first m elements of a slice whose cells can be read. -/
theorem run_firstR {a : Option Addr} {m c k : Nat} {ys : List Value} (hl : ys.length = m * k) (h : ∀ i, i < m * k → ∃ x, a = some x ∧ w.cell? (x.add i) = ys[i]?) (hn : a = none → m = 0) : (Builtin.firstCells k m (.slice a m c)).run P w = .ok ys.toArray w := by
  cases a with
  | none =>
    have := hn rfl
    subst this
    have : ys = [] := List.length_eq_zero_iff.1 (by rw [hl]; simp)
    subst this
    simp [Builtin.firstCells]
  | some x =>
    have key : ∀ (n i : Nat) (acc : Array Value), i + n = ys.length → (loadCellsFrom x i n acc).run P w = .ok (acc ++ (ys.drop i).toArray) w := by
      intro n
      induction n with
      | zero => intro i acc h; simp [loadCellsFrom, List.drop_eq_nil_of_le (show ys.length ≤ i by omega)]
      | succ n ih =>
        intro i acc hi
        have hlt : i < ys.length := by omega
        obtain ⟨x', hx, hc⟩ := h i (by omega)
        cases hx
        simp only [loadCellsFrom, Sem.run_bind, run_load, hc, List.getElem?_eq_getElem hlt, Result.andThen_ok]
        rw [ih (i + 1) _ (by omega)]
        congr 1
        rw [List.drop_eq_getElem_cons hlt]
        apply Array.ext'
        simp
    show (loadCells x (m * k)).run P w = _
    unfold loadCells
    rw [key (m * k) 0 #[] (by omega)]
    simp
end
end PB

/-! ## Slice literals of structs, all elements given in their order -/
namespace PB
open Go Go.RowKit
def enumV : Nat → List Value → List (Nat × Value)
  | _, [] => []
  | i, v :: l => (i, v) :: enumV (i + 1) l
theorem fillF_enum (sz : Nat) : ∀ (vs pre rest : List Value) (i : Nat), pre.length = i * sz → (vs.all fun v => (cellsL v).length == sz) = true → rest.length = vs.length * sz →
    fillF sz (pre ++ rest) (enumV i vs) = some (pre ++ vs.flatMap cellsL)
  | [], pre, rest, i, _, _, hr => by
    have : rest = [] := List.length_eq_zero_iff.1 (by simpa using hr)
    subst this; simp [enumV, fillF]
  | v :: vs, pre, rest, i, hp, ha, hr => by
    simp only [List.all_cons, Bool.and_eq_true, beq_iff_eq] at ha
    have hr' : rest.length = sz + vs.length * sz := by rw [hr, List.length_cons, Nat.add_mul, Nat.one_mul, Nat.add_comm]
    have h1 := setRange_append (cellsL v) pre rest (by rw [ha.1, hr']; omega)
    rw [hp] at h1
    simp only [enumV, fillF]
    rw [if_pos ⟨ha.1, by rw [List.length_append, hp, hr']; omega⟩, h1, ← List.append_assoc]
    rw [fillF_enum sz vs (pre ++ cellsL v) _ (i + 1) (by rw [List.length_append, hp, ha.1, Nat.add_mul, Nat.one_mul]) ha.2 (by rw [List.length_drop, hr', ha.1]; omega)]
    simp
section
variable {W0 w : World} {L : List (Nat × MObj)} {P : Program} {e t ty : TypeId}
variable {Q : Exit → Act → World → Prop} {K : Act → World → Prop} {n : Nat} {Γ : Fr} {ρ : Nat → Value} {ds : List Deferred} {pos : String} {after : Array Edge} {g : Option (Nat × Bool)} {d : Nat}
theorem w_buildSliceV {z : Value} {sz bs k : Nat} {parts : List (Nat × Operand)} {pv cs : List Value} (hs : St W0 w L) [hT : SliceT P t e sz] [hI : TInfo P e (some z) sz bs] (hp : parts.map (fun p => (p.1, ev n Γ ρ p.2)) = enumV 0 pv)
    (hk : pv.length = k) (ha : (pv.all fun v => (cellsL v).length == sz) = true) (hk0 : Nat.ble 1 (k * sz) = true) (hk1 : Nat.ble (k * sz) 16777216 = true) (hc : pv.flatMap cellsL = cs)
    (hw : ∀ b w', St W0 w' ((b, .cells cs e) :: L) → w.heap.size ≤ b → K (act n ((d, .slice (some ⟨b, 0, none⟩) k k) :: Γ) ρ ds) w') :
    OW P ⟨some d, .buildSlice t k parts.toArray, ty, pos, after, g⟩ (act n Γ ρ ds) w K Q := by
  subst hc
  have h := fillF_enum sz pv [] (zerosL z (k * sz)) 0 (by simp) ha (by simp [zerosL, hk])
  rw [List.nil_append, List.nil_append] at h
  exact w_buildSlice hs hp hk0 hk1 h hw
end
end PB
