/- Facts on the functions and types of this seat that its laws are proved from: contracts under the premises that each theorem names. -/
import Derived.Test.YtagdgalnaobpeaaEnh
set_option linter.unusedSimpArgs false
set_option linter.unusedVariables false
set_option linter.unnecessarySimpa false

/-! ## clear, and the cells of an array behind a pointer -/
namespace PB
open Go Go.RowKit
section
variable {W0 w : World} {L L' : List (Nat × MObj)} {b o off : Nat} {cs vs : List Value} {e : TypeId} {P : Program}
variable {Q : Exit → Act → World → Prop} {K : Act → World → Prop} {n : Nat} {Γ : Fr} {ρ' : Nat → Value} {ds : List Deferred} {ty t : TypeId} {pos : String} {after : Array Edge} {g : Option (Nat × Bool)} {dst : Option Nat} {x i : Operand} {k : IntKind}

theorem y_indexArr {ρ : Operand → Value} {len sz bs : Nat} {z : Option Value} {j : Int} [hu : Under P t (.array len e)] [hI : TInfo P e z sz bs] (hx : ρ x = .pointer (some ⟨b, o, none⟩)) (hi : ρ i = .int k j) (h0 : 0 ≤ j) (h1 : j < len) (ho : o + j.toNat * sz = off) :
    Yld P ρ (.indexAddr t x i) ty w (.pointer (some ⟨b, off, none⟩)) := by
  subst ho
  constructor; intro _ _ _ _
  obtain ⟨inf, hi1, _, hi3, _⟩ := tinfo_some hI.out
  have ha : ∀ m, (⟨b, o, none⟩ : Addr).add m = ⟨b, o + m, none⟩ := by intro m; unfold Addr.add; split <;> simp_all
  simp [execOp, Instr.indexAt, Instr.sureAddr, asIntOf, underlying, hu.out, hx, hi, h0, h1, Go.sizeOf, typeInfo, hi1, hi3, ha]

theorem w_clear {m c sz bs : Nat} {z : Value} (hs : St W0 w L) [hu : Under P t (.slice e)] [hI : TInfo P e (some z) sz bs] (hx : ev n Γ ρ' x = .slice (some ⟨b, 0, none⟩) m c) (hm : m ≠ 0) [hi : InL b (.cells cs e) L]
    (hv : (Builtin.zeroCells z.cells m).toList = vs) (h1 : vs.all oneB = true) (hl : vs.length ≤ cs.length) [u : Upd b (.cells (setRange cs (0 + 0) vs) e) L L'] (hk : ∀ w', St W0 w' L' → K ((act n Γ ρ' ds).put dst (.tuple #[])) w') :
    OW P ⟨dst, .call ⟨.builtin .clear, #[x], #[t]⟩, ty, pos, after, g⟩ (act n Γ ρ' ds) w K Q := by
  obtain ⟨inf, hi1, hi2, _, _⟩ := tinfo_some hI.out
  obtain ⟨w', hr, hs', _⟩ := st_storeCells (P := P) (W0 := W0) (b := b) (off := 0) (e := e) vs 0 w L L' cs h1 hs hi.mem u (by omega)
  subst hv
  have hrun : (execOp (ev n Γ ρ') ⟨dst, .call ⟨.builtin .clear, #[x], #[t]⟩, ty, pos, after, g⟩).run P w = .ok (.value (.tuple #[])) w' := by
    cases m with
    | zero => exact absurd rfl hm
    | succ m => simp [execOp, resolve, invoke, builtin, hx, Builtin.clear_, run_underlying hu.out, zeroValue, typeInfo, hi1, hi2, hr]
  constructor
  simp only [Oper.wp, eval_act, hrun, Oper.upon_value]
  exact hk w' hs'
end
end PB
