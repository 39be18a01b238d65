/- Facts on the functions and types of this seat that its laws are proved from: contracts under the premises that each theorem names. -/
import Derived.Test.YtfjniocobcoepaaEnf
set_option linter.unusedSimpArgs false
set_option linter.unusedVariables false
set_option linter.unnecessarySimpa false

/-! ## Bytes and strings -/
namespace PB
open Go Go.RowKit
section
variable {W0 w : World} {L L' A R : List (Nat × MObj)} {b off : Nat} {cs vs : List Value} {e : TypeId} {o : MObj} {P : Program}

theorem run_appendS {s : OS} {xs ys : List Value} {len m sz bs : Nat} {str : ByteArray} {t t2 ty : TypeId} {z : Value} (hs : St W0 w (A ++ (s.blk xs e ++ R))) (hok : s.ok xs len sz) (hT : SliceT P t e sz) (hI : TInfo P e (some z) sz bs)
    (hz : z.cells.size = sz) (hT2 : Under P t2 .string) (hmm : str.size = m) (hsz : sz = 1) (hys : ys = str.data.toList.map fun b => .int .u8 b.toNat) (hm : 0 < m ∨ s.a ≠ none) (hb : 0 < bs)
    (hroom : (2 * (len + m) + 1000) * bs ≤ 2 ^ 48) :
    ∃ (s' : OS) (w' : World), (Builtin.append_ #[t, t2] ty #[.slice s.ad len s.cap, .string str]).run P w = .ok (.slice s'.ad (len + m) s'.cap) w' ∧ s'.ok (xs ++ ys) (len + m) sz ∧ (∃ g, s'.a = some g) ∧ St W0 w' (A ++ (s'.blk (xs ++ ys) e ++ R)) := by
  have hf : ∀ w1, St W0 w1 (A ++ (s.blk xs e ++ R)) → (Builtin.firstCells sz m (.string str)).run P w1 = .ok ys.toArray w1 := by
    intro w1 _
    subst hys hmm
    have he : str.extract 0 str.size = str := ByteArray.extract_zero_size
    simp only [Builtin.firstCells, he, Sem.run_pure]
    congr 1
    apply Array.ext'
    simp
  have hylen : ys.length = m * sz := by rw [hys, hsz, ← hmm, List.length_map, Nat.mul_one]; rfl
  have hone : ys.all oneB = true := by
    rw [hys]
    refine List.all_eq_true.2 fun v hv => ?_
    obtain ⟨b, _, rfl⟩ := List.mem_map.1 hv
    rfl
  obtain ⟨inf, hi1, hi2, hi3, hi4⟩ := tinfo_some hI.out
  have hTo := hT.out
  unfold sliceElem at hTo
  have hu : P.underlying t = some (.slice e) := by
    split at hTo
    · rename_i e' hu
      cases hinf : P.info? e' with
      | none => simp [hinf] at hTo
      | some i => simp [hinf] at hTo; rw [hu, hTo.1]
    · cases hTo
  have hu2 := hT2.out
  have hfirst := hf w hs
  by_cases hfit : len + m ≤ s.cap
  · cases ha : s.a with
    | none =>
      have := hok.nil_ ha
      rcases hm with hm | hm
      · omega
      · exact absurd ha hm
    | some g =>
      have hblk : s.blk xs e = [(g, .cells (xs ++ s.sp) e)] := by simp [OS.blk, ha]
      have hsp : m * sz ≤ s.sp.length := by rw [hok.sp_]; exact Nat.mul_le_mul_right _ (by omega)
      have hcs : setRange (xs ++ s.sp) (len * sz + 0) ys = xs ++ (ys ++ s.sp.drop ys.length) := by
        rw [Nat.add_zero, ← hok.len_]; exact setRange_append ys xs s.sp (by omega)
      rw [hblk] at hs
      have hmem : (g, MObj.cells (xs ++ s.sp) e) ∈ A ++ ([(g, MObj.cells (xs ++ s.sp) e)] ++ R) := by simp
      obtain ⟨w', hr, hs', _⟩ := st_storeCells (P := P) (W0 := W0) (b := g) (off := len * sz) (e := e) ys 0 w _ (A ++ ([(g, MObj.cells (setRange (xs ++ s.sp) (len * sz + 0) ys) e)] ++ R)) (xs ++ s.sp) hone hs hmem ⟨A, R, _, by simp; rfl, by simp⟩ (by simp [hok.len_]; omega)
      refine ⟨⟨some g, s.cap, s.sp.drop ys.length⟩, w', ?_, ⟨by simp [hok.len_, hylen, Nat.add_mul], ?_, hfit, fun h => by cases h⟩, ⟨g, rfl⟩, ?_⟩
      · simp only [Builtin.append_, List.getElem?_toArray, List.getElem?_cons_zero, List.getElem?_cons_succ, Sem.run_bind, run_underlying hu, Result.andThen_ok, OS.ad, ha, Option.map_some, Go.sizeOf, typeInfo, run_program, hi1, Sem.run_pure, hi3,
          run_underlying hu2, Builtin.lenOf, hmm, Bool.false_eq_true, if_false, hfit, if_true, Bool.not_false, hfirst, addr_add, Nat.zero_add]
        simp only [Result.andThen_ok, hr]
      · simp only [List.length_drop, hok.sp_, hylen]
        rw [← Nat.sub_mul]; congr 1; omega
      · rw [hcs] at hs'
        simpa [OS.blk] using hs'
  · have hnc := nextslicecap_le (len + m) s.cap (by omega)
    have hnc2 : ¬ (Builtin.nextslicecap (len + m) s.cap * inf.bytes > 2 ^ 48) := by
      rw [hi4]
      have := Nat.mul_le_mul_right bs hnc
      omega
    have hold : ∀ w1, St W0 w1 (A ++ (s.blk xs e ++ R)) → (Builtin.firstCells sz len (.slice s.ad len s.cap)).run P w1 = .ok xs.toArray w1 := by
      intro w1 hs1
      cases ha : s.a with
      | none =>
        have := hok.nil_ ha
        have hx : xs = [] := List.length_eq_zero_iff.1 (by rw [hok.len_, this.1]; simp)
        simp [OS.ad, ha, Builtin.firstCells, hx]
      | some g =>
        have hmem : (g, MObj.cells (xs ++ s.sp) e) ∈ A ++ (s.blk xs e ++ R) := by simp [OS.blk, ha]
        have := run_firstCells (P := P) (k := sz) (o := 0) (m := len) (c := s.cap) hs1 hmem (by simp [hok.len_])
        simp only [OS.ad, ha, Option.map_some]
        rw [this]
        simp [← hok.len_]
    have hbig : ¬ (((len + m : Nat) : Int) > IntKind.i64.max ∧ (False ∨ inf.bytes = 0)) := by
      rintro ⟨_, h | h⟩
      · exact h
      · rw [hi4] at h; omega
    let T := (Question.appendCap (len + m) s.cap e).cut (w.tape w.drawn (.appendCap (len + m) s.cap e))
    have hT : len + m ≤ T := by simp only [T, Question.cut]; omega
    let rest := (Builtin.zeroCells z.cells (T - (len + m))).toList
    refine ⟨⟨some w.heap.size, T, rest⟩, w.drew.alloc (MObj.cells (xs ++ ys ++ rest) e).toObj, ?_, ⟨by simp [hok.len_, hylen, Nat.add_mul], ?_, hT, fun h => by cases h⟩, ⟨_, rfl⟩, ?_⟩
    · have hd := hs.drew
      have hf2 := hf _ hd
      have ho2 := hold _ hd
      have hch : (choose (.appendCap (len + m) s.cap e)).run P w = .ok T w.drew := by
        rw [run_choose]; simp [Question.forced, T]
      simp only [Builtin.append_, List.getElem?_toArray, List.getElem?_cons_zero, List.getElem?_cons_succ, Sem.run_bind, run_underlying hu, Result.andThen_ok, Go.sizeOf, typeInfo, run_program, hi1, Sem.run_pure, hi3,
          run_underlying hu2, Builtin.lenOf, hmm, Bool.false_eq_true, if_false, hfit, hbig, hnc2, hch, run_askRoom, ho2, hf2, Bool.not_false, if_true, zeroValue, hi2, newRow, run_newObj]
      simp [OS.ad, MObj.toObj, rest]
      show w.drew.alloc _ = w.drew.alloc _
      congr 2
      apply Array.ext'
      simp
    · simp only [rest, length_zeroCells, hz]
    · have h1 := (hs.drew).alloc (.cells (xs ++ ys ++ rest) e)
      have h2 : St W0 (w.drew.alloc (MObj.cells (xs ++ ys ++ rest) e).toObj) (A ++ ((w.heap.size, MObj.cells (xs ++ ys ++ rest) e) :: (s.blk xs e ++ R))) := h1.perm List.perm_middle.symm
      have h3 := h2.sub (L' := A ++ ((w.heap.size, MObj.cells (xs ++ ys ++ rest) e) :: R)) (List.Sublist.append_left (List.Sublist.cons_cons _ (List.sublist_append_right ..)) A)
      simpa [OS.blk] using h3

variable {Q : Exit → Act → World → Prop} {K : Act → World → Prop} {n : Nat} {Γ : Fr} {ρ : Nat → Value} {ds : List Deferred} {ty t : TypeId} {pos : String} {after : Array Edge} {g : Option (Nat × Bool)} {d : Nat} {x y : Operand} {v : Value}
theorem w_appendS {s : OS} {xs ys : List Value} {len m bs : Nat} {str : ByteArray} {t2 : TypeId} {z : Value} (A : List (Nat × MObj)) (hs : St W0 w (A ++ (s.blk xs e ++ R))) (hok : s.ok xs len 1) [hT : SliceT P t e 1] [hI : TInfo P e (some z) 1 bs] [hT2 : Under P t2 .string]
    (hx : ev n Γ ρ x = .slice s.ad len s.cap) (hy : ev n Γ ρ y = .string str) (hmm : str.size = m) (hz : z.cells.size = 1) (hys : ys = str.data.toList.map fun b => .int .u8 b.toNat)
    (hm : 0 < m ∨ s.a ≠ none) (hb : 0 < bs) (hroom : (2 * (len + m) + 1000) * bs ≤ 2 ^ 48)
    (hk : ∀ (s' : OS) w', s'.ok (xs ++ ys) (len + m) 1 → (∃ g, s'.a = some g) → St W0 w' (A ++ (s'.blk (xs ++ ys) e ++ R)) → K (act n ((d, .slice s'.ad (len + m) s'.cap) :: Γ) ρ ds) w') :
    OW P ⟨some d, .call ⟨.builtin .append, #[x, y], #[t, t2]⟩, ty, pos, after, g⟩ (act n Γ ρ ds) w K Q := by
  obtain ⟨s', w', hr, hok', hg, hs'⟩ := run_appendS (P := P) (ty := ty) hs hok hT hI hz hT2 hmm rfl hys hm hb hroom
  constructor
  have hrun : (execOp (ev n Γ ρ) ⟨some d, .call ⟨.builtin .append, #[x, y], #[t, t2]⟩, ty, pos, after, g⟩).run P w = .ok (.value (.slice s'.ad (len + m) s'.cap)) w' := by
    simp [execOp, resolve, invoke, builtin, hx, hy, hr]
  simp only [Oper.wp, eval_act, hrun, Oper.upon_value, put_act]
  exact hk s' w' hok' hg hs'

/-- The string of bytes. -/
def strB (l : List Nat) : ByteArray := ⟨(l.map UInt8.ofNat).toArray⟩
abbrev U8 (n : Nat) : Value := .int .u8 (n : Int)
theorem strB_size (l : List Nat) : (strB l).size = l.length := by simp [strB, ByteArray.size]
theorem strB_app (l m : List Nat) : strB l ++ strB m = strB (l ++ m) := by
  apply ByteArray.ext
  simp [strB]
theorem run_bytesFor (f : Value → ByteArray → Sem (ForInStep ByteArray)) (hf : ∀ (k : Nat) s w, (f (U8 k) s).run P w = .ok (.yield (s.push (UInt8.ofNat k))) w) : ∀ (l : List Nat) (s : ByteArray), (forIn (l.map U8) s f).run P w = .ok (s ++ strB l) w
  | [], s => by simp [strB]; apply ByteArray.ext; simp
  | k :: l, s => by
    rw [List.map_cons, List.forIn_cons]
    simp only [Sem.run_bind, hf, Result.andThen_ok]
    rw [run_bytesFor f hf l]
    congr 1
    apply ByteArray.ext
    simp [strB, ByteArray.push]
theorem y_b2s {m c : Nat} {ρ : Operand → Value} {src dst es : TypeId} {l : List Nat} (hs : St W0 w L) (hx : ρ x = .slice (some ⟨b, 0, none⟩) m c) [hu : Under P src (.slice es)] [hd : Under P dst .string] [he : Under P es (.int .u8)] [hi : InL b (.cells cs e) L] (hm : l.length = m) (hc : cs.take m = l.map U8) (hv : v = .string (strB l)) :
    Yld P ρ (.convert src dst x) ty w v := by
  subst hv
  constructor; intro _ _ _ _
  have hlen : m ≤ cs.length := by
    have := congrArg List.length hc
    simp at this
    omega
  have hl := run_loadCells (P := P) (w := w) (b := b) (o := 0) (n := m) (cs := cs) (fun i => hs.cell (off := i) hi.mem) (by omega)
  rw [List.drop_zero, hc] at hl
  simp only [execOp, convert, Sem.run_bind, run_underlying hu.out, run_underlying hd.out, Result.andThen_ok, hx, run_underlying he.out, Conv.bytesToString, hl]
  rw [List.forIn_toArray, run_bytesFor _ (fun k s w => by simp) l]
  simp
theorem y_str_add {a c : ByteArray} {s : TypeId} {ρ : Operand → Value} (hx : ρ x = .string a) (hy : ρ y = .string c) (hsz : a.size + c.size ≤ 9223372036854775807) : Yld P ρ (.binOp .add t x y s) ty w (.string (a ++ c)) := by
  constructor; intro _ _ _ _
  have : ¬ ((a.size + c.size : Nat) : Int) > IntKind.i64.max := by
    have : IntKind.i64.max = 9223372036854775807 := rfl
    omega
  simp [execOp, hx, hy, eqGuard, binOp, Op.stringOp, this]
  omega
end
end PB
