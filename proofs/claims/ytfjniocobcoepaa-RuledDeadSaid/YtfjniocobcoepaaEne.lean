/- Facts on the functions and types of this seat that its laws are proved from: contracts under the premises that each theorem names. -/
import Derived.Test.YtfjniocobcoepaaEndd
set_option linter.unusedSimpArgs false
set_option linter.unusedVariables false
set_option linter.unnecessarySimpa false

/-! ## Deferred calls that find nothing to recover -/
namespace PB
open Go Go.RowKit

theorem enterD {P : Program} {f : FuncId} {fn : Func} {c : Code} {args : Array Value} {w : World} {R : Ending → World → Prop} {n : Nat} {l : List Value}
    (hf : P.funcs[f]? = some fn) (hb : fn.body = some c) (hn : fn.ntmps = n) (hl : args = l.toArray) (hs : Nat.ble l.length n = true)
    (h : ∀ ρ, c.wp P (bodyPostD P fn R) (act n (enumFrom 0 l) ρ []) w) : Calls P f args w R := by
  subst hl
  refine calls_of_wp_defers hf hb ?_
  rw [hn, act_enter n l.toArray (by simpa [Nat.ble_eq] using hs)]
  exact h _

theorem FnC.enterD {P : Program} {f : FuncId} {fn : Func} {c : Code} {w : World} {Φ : Value → World → Prop} {n : Nat} {l : List Value}
    (hf : P.funcs[f]? = some fn) (hb : fn.body = some c) (hn : fn.ntmps = n) (hs : Nat.ble l.length n = true)
    (h : ∀ ρ, CW P c (bodyPostD P fn (Ret Φ)) (act n (enumFrom 0 l) ρ []) w) : FnC P f l w Φ := ⟨PB.enterD hf hb hn rfl hs fun ρ => (h ρ).out⟩

/-- A deferred call that changes nothing where nothing has panicked. -/
structure Idle (P : Program) (f : FuncId) (vs : List Value) : Prop where
  enter : enterB P f = true
  c : ∀ w, CallsD P f vs.toArray .returning w fun e u w' => (∃ v, e = .returned v) ∧ u = .returning ∧ w' = w

section
variable {P : Program} {Q : Exit → Act → World → Prop} {K : Act → World → Prop} {n : Nat} {Γ : Fr} {ρ : Nat → Value} {ds : List Deferred} {w : World} {ty : TypeId} {pos : String} {after : Array Edge} {g : Option (Nat × Bool)}

theorem w_defer {f : FuncId} {fop : Operand} {args : Array Operand} {tys : Array TypeId} {vs : List Value} (hf : ev n Γ ρ fop = .func (.func f) #[] #[]) (ha : args.toList.map (ev n Γ ρ) = vs)
    (hk : K (act n Γ ρ (⟨.fn (.func f) #[], vs.toArray⟩ :: ds)) w) : OW P ⟨none, .defer ⟨.value fop, args, tys⟩, ty, pos, after, g⟩ (act n Γ ρ ds) w K Q := by
  have hrun : (execOp (ev n Γ ρ) ⟨none, .defer ⟨.value fop, args, tys⟩, ty, pos, after, g⟩).run P w = .ok (.defer ⟨.fn (.func f) #[], vs.toArray⟩) w := by
    subst ha
    simp [execOp, resolve, Deferred.ofValue, hf]
    apply Array.ext'
    simp
  constructor
  simp only [Oper.wp, eval_act, hrun, Oper.upon_defer]
  exact hk

theorem leaves_nil {fn : Func} {rs : List ResultVar} (vs : List Value) {Φ : Value → World → Prop} (hf : fn.results = rs.toArray) (h : resOk P w (ev n Γ ρ) rs vs) (hr : Φ (oneOf vs) w) :
    Leaves P fn (act n Γ ρ ds).tmps (Ret Φ) [] .returning w := ⟨_, results_run hf h, _, rfl, hr⟩

theorem retD0 {fn : Func} {rs : List ResultVar} (vs : List Value) {Φ : Value → World → Prop} (hf : fn.results = rs.toArray) (h : resOk P w (ev n Γ ρ) rs vs) (hr : Φ (oneOf vs) w) :
    bodyPostD P fn (Ret Φ) .ret (act n Γ ρ []) w := leaves_nil vs hf h hr

theorem endD1 {fn : Func} {rs : List ResultVar} {f : FuncId} {us : List Value} (vs : List Value) {Φ : Value → World → Prop} (hi : Idle P f us) (hf : fn.results = rs.toArray) (h : resOk P w (ev n Γ ρ) rs vs) (hr : Φ (oneOf vs) w) :
    bodyPostD P fn (Ret Φ) .normal (act n Γ ρ [⟨.fn (.func f) #[], us.toArray⟩]) w := by
  have he := hi.enter
  have hinv : (invoke (.fn (.func f) #[]) us.toArray).run P w = .ok (.enter f us.toArray) w := by
    unfold enterB at he
    cases hfn : P.funcs[f]? with
    | none => simp [hfn] at he
    | some fn =>
      simp only [hfn, Bool.and_eq_true, bne_iff_ne, ne_eq] at he
      have h2 : fn.body ≠ none := by intro hb; simp [hb] at he
      simp [invoke, callFunc, hfn, he.1, h2]
  refine leaves_cons (by simp) hinv ((hi.c w).mono fun e u w' ⟨⟨v, hv⟩, hu, hw⟩ => ?_)
  subst hv hu hw
  exact leaves_nil (ds := [⟨.fn (.func f) #[], us.toArray⟩]) vs hf h hr
theorem retD1 {fn : Func} {rs : List ResultVar} {f : FuncId} {us : List Value} (vs : List Value) {Φ : Value → World → Prop} (hi : Idle P f us) (hf : fn.results = rs.toArray) (h : resOk P w (ev n Γ ρ) rs vs) (hr : Φ (oneOf vs) w) :
    bodyPostD P fn (Ret Φ) .ret (act n Γ ρ [⟨.fn (.func f) #[], us.toArray⟩]) w := endD1 vs hi hf h hr
end
end PB
