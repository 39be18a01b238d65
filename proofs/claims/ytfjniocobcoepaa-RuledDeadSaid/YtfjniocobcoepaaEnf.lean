/- Facts on the functions and types of this seat that its laws are proved from: contracts under the premises that each theorem names. -/
import Derived.Test.YtfjniocobcoepaaEne
set_option linter.unusedSimpArgs false
set_option linter.unusedVariables false
set_option linter.unnecessarySimpa false

/-! ## Keys: structs and arrays of three whole numbers -/
namespace PB
open Go Go.RowKit
section
variable {P : Program} {w : World} {t e : TypeId} {f0 f1 f2 : Field}

theorem run_part_int {t : TypeId} {vs : List Value} {i : Nat} {v : Value} (h : scalarB P t = true) (hv : vs[i]? = some v) : (part t vs.toArray i).run P w = .ok v w := by
  simp [part, run_isAgg_scalar h, hv]
theorem chk_int {n : Nat} {x : Int} (h : P.underlying t = some (.int .i64)) (em : Bool) : (Instr.checkKey em (n + 1) t (I64 x)).run P w = .ok () w := by
  simp [Instr.checkKey, run_underlying h]
theorem scal_int (h : P.underlying t = some (.int .i64)) : scalarB P t = true := by simp [scalarB, h]

structure Fld (P : Program) (f : Field) (i : Nat) : Prop where
  off : f.offset = i
  nm : f.name ≠ "_"
  ty : P.underlying f.type = some (.int .i64)

theorem key_struct (hu : P.underlying t = some (.struct #[f0, f1, f2])) (h0 : Fld P f0 0) (h1 : Fld P f1 1) (h2 : Fld P f2 2) (h : intStructB P t 3 = true) : KeyOk P t where
  eq := fun w a b => by
    obtain ⟨a0, a1, a2⟩ := a
    obtain ⟨b0, b1, b2⟩ := b
    haveI : IntStruct P t 3 := ⟨h⟩
    have hs : sameInts [I64 a0, I64 a1, I64 a2] [I64 b0, I64 b1, I64 b2] = some (decide ((a0, a1, a2) = (b0, b1, b2))) := by
      simp [sameInts, Bool.decide_and]
    have ho := h
    unfold intStructB at ho
    split at ho
    · rename_i fs hu
      simp only [Bool.and_eq_true, beq_iff_eq, Bool.not_eq_true'] at ho
      obtain ⟨⟨⟨q1, q2⟩, q3⟩, q4⟩ := ho
      have hf : P.fieldsOf t = fs := by simp [Program.fieldsOf, hu]
      show (Op.equalIn 10000 t _ _).run P w = _
      rw [run_equalIn_struct (P := P) w 9999 t _ _ (by rw [hf]; exact hu) q3, hf]
      exact run_eqInts 9998 fs.toList 0 _ _ [] [] _ q2 rfl rfl (by simp [q1]) hs
    · cases ho
  chk := fun w em a => by
    obtain ⟨a0, a1, a2⟩ := a
    show (Instr.checkKey em (9998 + 1 + 1) t (.agg [I64 a0, I64 a1, I64 a2].toArray)).run P w = _
    rw [Instr.checkKey]
    have p0 := run_part_int (P := P) (w := w) (vs := [I64 a0, I64 a1, I64 a2]) (scal_int h0.ty) (i := f0.offset) (v := I64 a0) (by rw [h0.off]; rfl)
    have p1 := run_part_int (P := P) (w := w) (vs := [I64 a0, I64 a1, I64 a2]) (scal_int h1.ty) (i := f1.offset) (v := I64 a1) (by rw [h1.off]; rfl)
    have p2 := run_part_int (P := P) (w := w) (vs := [I64 a0, I64 a1, I64 a2]) (scal_int h2.ty) (i := f2.offset) (v := I64 a2) (by rw [h2.off]; rfl)
    simp only [Sem.run_bind, run_underlying hu, Result.andThen_ok]
    simp [h0.nm, h1.nm, h2.nm, p0, p1, p2, chk_int h0.ty, chk_int h1.ty, chk_int h2.ty]
  now := ⟨_, hu, fun a b => rfl⟩

theorem key_array {i : TypeInfo} (hu : P.underlying t = some (.array 3 e)) (he : P.underlying e = some (.int .i64)) (hi : P.info? e = some i) (h1 : i.size = 1) : KeyOk P t where
  eq := fun w a b => by
    obtain ⟨a0, a1, a2⟩ := a
    obtain ⟨b0, b1, b2⟩ := b
    show (Op.equalIn (9998 + 1 + 1) t _ _).run P w = _
    rw [run_equalIn_array (P := P) w (9998 + 1) _ _ hu hi]
    have hc : P.cellsOf e = 1 := by simp [Program.cellsOf, hi, h1]
    have q : ∀ j x, ([I64 a0, I64 a1, I64 a2])[j]? = some x → (part e [I64 a0, I64 a1, I64 a2].toArray j).run P w = .ok x w := fun j x h => run_part_int (scal_int he) h
    have q' : ∀ j x, ([I64 b0, I64 b1, I64 b2])[j]? = some x → (part e [I64 b0, I64 b1, I64 b2].toArray j).run P w = .ok x w := fun j x h => run_part_int (scal_int he) h
    rw [hc]
    have hr : List.range 3 = [0, 1, 2] := rfl
    rw [hr]
    simp only [Op.eqItems, Sem.run_bind, Nat.mul_one]
    rw [q 0 (I64 a0) rfl]
    simp only [Result.andThen_ok]
    rw [q' 0 (I64 b0) rfl]
    simp only [Result.andThen_ok, run_equalIn_int (P := P) w 9998 e .i64 .i64 _ _ he]
    by_cases c0 : a0 = b0
    · subst c0
      simp only [beq_self_eq_true, Bool.not_true, Bool.false_eq_true, if_false, Sem.run_bind]
      rw [q 1 (I64 a1) rfl]
      simp only [Result.andThen_ok]
      rw [q' 1 (I64 b1) rfl]
      simp only [Result.andThen_ok, run_equalIn_int (P := P) w 9998 e .i64 .i64 _ _ he]
      by_cases c1 : a1 = b1
      · subst c1
        simp only [beq_self_eq_true, Bool.not_true, Bool.false_eq_true, if_false, Sem.run_bind]
        rw [q 2 (I64 a2) rfl]
        simp only [Result.andThen_ok]
        rw [q' 2 (I64 b2) rfl]
        simp only [Result.andThen_ok, run_equalIn_int (P := P) w 9998 e .i64 .i64 _ _ he]
        by_cases c2 : a2 = b2
        · subst c2; simp
        · simp [c2]
      · simp [c1]
    · simp [c0]
  chk := fun w em a => by
    obtain ⟨a0, a1, a2⟩ := a
    show (Instr.checkKey em (9998 + 1 + 1) t (.agg [I64 a0, I64 a1, I64 a2].toArray)).run P w = _
    rw [Instr.checkKey]
    have q : ∀ j x, ([I64 a0, I64 a1, I64 a2])[j]? = some x → (part e [I64 a0, I64 a1, I64 a2].toArray j).run P w = .ok x w := fun j x h => run_part_int (scal_int he) h
    have q0 := q 0 _ rfl
    have q1 := q 1 _ rfl
    have q2 := q 2 _ rfl
    simp only [Sem.run_bind, run_underlying hu, Result.andThen_ok]
    simp only [Std.Legacy.Range.forIn_eq_forIn_range', Std.Legacy.Range.size, Nat.sub_zero, Nat.add_one_sub_one, Nat.div_one]
    simp [Go.sizeOf, typeInfo, hi, h1, List.range', q0, q1, q2, chk_int he]
  now := ⟨_, hu, fun a b => rfl⟩
end
end PB

/-! ## A deferred function that recovers: where nothing has panicked -/
namespace PB
open Go Go.RowKit
theorem idle_guard {P : Program} {f : FuncId} {fn : Func} {x : Code} {a0 : Value} {ti tb : TypeId} {p1 p2 p3 p4 : String} {e1 e2 e3 e4 : Array Edge} (he : enterB P f = true) (hf : P.funcs[f]? = some fn)
    (hb : fn.body = some (Code.seq (Code.region 0 #[⟨some 5, .call ⟨.builtin .recover, #[], #[]⟩, ti, p1, e1, none⟩, ⟨some 2, .assign (.tmp 5), ti, p2, e2, none⟩] false)
      (Code.seq (Code.region 1 #[⟨some 6, .move (.tmp 2), ti, p3, e3, none⟩, ⟨some 7, .binOp .neq ti (.tmp 6) (.const .nilIface) ti, tb, p4, e4, none⟩] false) (Code.cond (.tmp 7) x Code.skip))))
    (hi : ∃ ms, P.underlying ti = some (.interface ms)) (hn : fn.ntmps = 18) (hr : fn.results = #[]) : Idle P f [a0] where
  enter := he
  c := fun w => by
    obtain ⟨ms, hms⟩ := hi
    refine callsD_of_wpS hf hb fun c₀ cs hu => ?_
    rw [hn, act_enter 18 [a0].toArray (by simp)]
    have hrec : recoverD (c₀ :: cs) = none := by simp [recoverD, hu]
    have h0 : ∀ d, (Op.equalIn (d + 1) ti .nilIface .nilIface).run P w = .ok true w := by intro d; simp [Op.equalIn, run_underlying hms]
    have heq : (Op.equalIn 10000 ti .nilIface .nilIface).run P w = .ok true w := h0 9999
    refine wpS_seq (wpS_region ?_)
    have r2 : List.range 2 = [0, 1] := rfl
    simp only [List.size_toArray, List.length_cons, List.length_nil, Nat.zero_add, Nat.reduceAdd, r2, wpOpsS, List.getElem?_toArray, List.getElem?_cons_zero, List.getElem?_cons_succ, Region.wanted, if_true]
    have x1 : ∀ (ρ : Operand → Value), (execOp ρ ⟨some 5, .call ⟨.builtin .recover, #[], #[]⟩, ti, p1, e1, none⟩).run P w = .ok .recover w := by intro ρ; simp [execOp, resolve, invoke, builtin]
    have x2 : ∀ (ρ : Operand → Value), (execOp ρ ⟨some 2, .assign (.tmp 5), ti, p2, e2, none⟩).run P w = .ok (.value (ρ (.tmp 5))) w := by intro ρ; simp [execOp]
    simp only [x1, hrec, put_act, eval_act, x2, Oper.upon_value]
    show Code.wpS P _ _ _ _ _
    refine wpS_seq (wpS_of_wp (CW.out (s_reg (l := [_, _]) (l_q (v := .nilIface) (y_move rfl) (l_q (v := .bool false) ?_ (l_end ?_))))))
    · constructor
      intro _ _ _ _
      have h6 : ∀ Γ ρ, ev 18 ((6, .nilIface) :: Γ) ρ (.tmp 6) = .nilIface := fun _ _ => rfl
      have hc : ∀ Γ ρ, ev 18 Γ ρ (.const .nilIface) = .nilIface := fun _ _ => rfl
      simp only [execOp, h6, hc, eqGuard, binOp, Op.equal, Op.maxDepth, Sem.run_bind, Sem.run_pure]
      simp
      rw [heq]; rfl
    · show Code.wpS P _ _ _ _ _
      refine wpS_cond (t := false) (by rw [eval_act]; rfl) (wpS_of_wp (CW.out (s_skip ?_)))
      refine ⟨rfl, .returning, by rw [← hu], .tuple #[], ?_, ⟨_, rfl⟩, rfl, rfl⟩
      unfold results
      rw [hr]
      simp
end PB

/-! ## Array literals, min of three -/
namespace PB
open Go Go.RowKit
section
variable {P : Program} {w : World} {ρ : Operand → Value} {ty t : TypeId} {x y z : Operand} {v : Value} {k : IntKind}
theorem y_buildArr {zs : List Value} {sz bs m e esz ebs : Nat} {ez : Option Value} {parts : List (Nat × Operand)} {pv : List (Nat × Value)} {vs : List Value} [hb : Under P t (.array m e)] [he : TInfo P e ez esz ebs] [ht : TInfo P t (some (.agg zs.toArray)) sz bs]
    (hp : parts.map (fun p => (p.1, ρ p.2)) = pv) (hv : fillF esz zs pv = some vs) : Yld P ρ (.build t parts.toArray) ty w (.agg vs.toArray) := by
  constructor; intro _ _ _ _
  obtain ⟨inf, hi1, hi2, _, _⟩ := tinfo_some ht.out
  obtain ⟨einf, ei1, _, ei3, _⟩ := tinfo_some he.out
  have hf := fillF_eq esz pv zs vs hv
  have hpv : (parts.toArray.map fun (x : Nat × Operand) => match x with | (i, x) => (i, ρ x)).toList = pv := by rw [← hp]; simp
  simp only [execOp, Instr.build, Sem.run_bind, zeroValue, typeInfo, run_program, Result.andThen_ok, hi1, hi2, Sem.run_pure, underlying, hb.out, Value.cells, Go.sizeOf, ei1, ei3]
  rw [hpv, hf]
  simp
theorem y_min3 {a c d : Int} {tt : Array TypeId} (hx : ρ x = .int k a) (hy : ρ y = .int k c) (hz : ρ z = .int k d) (hv : v = .int k (if d < (if c < a then c else a) then d else (if c < a then c else a))) : Yld P ρ (.call ⟨.builtin .min, #[x, y, z], tt⟩) ty w v := by
  subst hv
  constructor; intro _ _ _ _
  simp [execOp, resolve, invoke, builtin, Builtin.min_, Builtin.min2, hx, hy, hz]
end
end PB
