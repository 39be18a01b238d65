/- A small library for walks over Go code: frames as lists, blocks of memory as lists, one lemma an operation; nothing of any one program. No conditions. -/
import Derived.OrdersHeld
import Derived.Below
import Derived.Tactics
import Derived.KernelRfl
import Derived.IntWalk
import Derived.Laws.StructEq
import Derived.Deep.Draws
set_option linter.unusedSimpArgs false
set_option linter.unusedVariables false
set_option linter.unnecessarySimpa false
namespace PB
open Go Go.RowKit

/-! ## Frames as association lists -/
abbrev Fr := List (Nat × Value)

def look (Γ : Fr) (ρ : Nat → Value) (t : Nat) : Value :=
  match Γ with
  | [] => ρ t
  | (k, v) :: r => bif Nat.beq k t then v else look r ρ t

def act (n : Nat) (Γ : Fr) (ρ : Nat → Value) (ds : List Deferred) : Act := ⟨Array.ofFn (n := n) fun i => look Γ ρ i.1, ds⟩

def ev (n : Nat) (Γ : Fr) (ρ : Nat → Value) : Operand → Value
  | .tmp t => bif Nat.blt t n then look Γ ρ t else undef
  | .const v => v
  | .global g => .pointer (some ⟨g, 0, none⟩)
  | .func f => .func (.func f) #[] #[]

theorem blt_t {t n : Nat} (h : t < n) : Nat.blt t n = true := Nat.ble_eq_true_of_le h
theorem blt_f {t n : Nat} (h : ¬ t < n) : Nat.blt t n = false := by
  cases hb : Nat.blt t n
  · rfl
  · exact absurd (Nat.le_of_ble_eq_true hb) h
theorem beq_f {t n : Nat} (h : ¬ t = n) : Nat.beq t n = false := by
  cases hb : Nat.beq t n
  · rfl
  · exact absurd (Nat.eq_of_beq_eq_true hb) h

theorem eval_act (n : Nat) (Γ : Fr) (ρ : Nat → Value) (ds : List Deferred) : (act n Γ ρ ds).eval = ev n Γ ρ := by
  funext x
  cases x with
  | tmp t =>
    simp only [Act.eval, act, ev]
    by_cases h : t < n
    · simp [blt_t h, h]
    · simp [blt_f h, h]
  | _ => rfl

theorem look_cons (Γ : Fr) (ρ : Nat → Value) (d t : Nat) (v : Value) : look ((d, v) :: Γ) ρ t = if d = t then v else look Γ ρ t := by
  simp only [look]
  by_cases h : d = t
  · subst h; simp
  · simp [beq_f h, h]

theorem put_act (n : Nat) (Γ : Fr) (ρ : Nat → Value) (ds : List Deferred) (d : Nat) (v : Value) :
    (act n Γ ρ ds).put (some d) v = act n ((d, v) :: Γ) ρ ds := by
  simp only [act, Act.put]
  congr 1
  apply Array.ext
  · simp
  · intro i h1 h2
    simp only [Array.size_setIfInBounds, Array.size_ofFn] at h1
    rw [Array.getElem_setIfInBounds (by simpa using h1)]
    simp only [Array.getElem_ofFn, look_cons]

theorem put_act_none (a : Act) (v : Value) : a.put none v = a := rfl

theorem act_shrink {n : Nat} {Γ Γ' : Fr} {ρ : Nat → Value} {ds : List Deferred} (h : ∀ p ∈ Γ', look Γ ρ p.1 = p.2) :
    act n Γ ρ ds = act n Γ' (look Γ ρ) ds := by
  have key : ∀ (Δ : Fr), (∀ p ∈ Δ, look Γ ρ p.1 = p.2) → ∀ t, look Δ (look Γ ρ) t = look Γ ρ t := by
    intro Δ
    induction Δ with
    | nil => intro _ t; rfl
    | cons p Δ ih =>
      intro hp t
      obtain ⟨k, v⟩ := p
      rw [look_cons]
      by_cases hk : k = t
      · subst hk; rw [if_pos rfl]; exact (hp (k, v) (List.mem_cons_self ..)).symm
      · rw [if_neg hk]; exact ih (fun p hp' => hp p (List.mem_cons_of_mem _ hp')) t
  simp only [act]
  congr 1
  congr 1
  funext i
  exact (key Γ' h i.1).symm

/-- A frame written as a list of known slots over an unknown rest. -/
theorem act_weaken {n : Nat} {Γ Γ' : Fr} {ρ : Nat → Value} {ds : List Deferred} {G : Act → Prop} (h : ∀ p ∈ Γ', look Γ ρ p.1 = p.2)
    (hg : ∀ ρ', G (act n Γ' ρ' ds)) : G (act n Γ ρ ds) := by
  rw [act_shrink h]; exact hg _

def enumFrom : Nat → List Value → Fr
  | _, [] => []
  | k, v :: l => (k, v) :: enumFrom (k + 1) l

theorem look_enumFrom (l : List Value) (ρ : Nat → Value) : ∀ (k t : Nat), look (enumFrom k l) ρ t = if k ≤ t ∧ t < k + l.length then (l[t - k]?).getD undef else ρ t := by
  induction l with
  | nil =>
    intro k t
    simp only [enumFrom, look, List.length_nil]
    rw [if_neg (by omega)]
  | cons v l ih =>
    intro k t
    simp only [enumFrom, look_cons, ih, List.length_cons]
    by_cases h : k = t
    · subst h; simp
    · rw [if_neg h]
      by_cases h2 : k + 1 ≤ t ∧ t < k + 1 + l.length
      · rw [if_pos h2, if_pos (by omega)]
        have : t - k = (t - (k + 1)) + 1 := by omega
        rw [this, List.getElem?_cons_succ]
      · rw [if_neg h2, if_neg (by omega)]

theorem act_enter (n : Nat) (args : Array Value) (hn : args.size ≤ n) :
    ({ tmps := args ++ Array.replicate (n - args.size) undef, defers := [] } : Act) = act n (enumFrom 0 args.toList) (fun _ => undef) [] := by
  simp only [act]
  congr 1
  apply Array.ext
  · simp; omega
  · intro i h1 h2
    simp only [Array.getElem_ofFn, look_enumFrom]
    by_cases h : i < args.size
    · simp [h]
    · simp only [Array.getElem_append, h]
      rw [if_neg (by simp; omega)]
      simp

theorem enter {P : Program} {f : FuncId} {fn : Func} {c : Code} {args : Array Value} {w : World} {R : Ending → World → Prop} {n : Nat} {l : List Value}
    (hf : P.funcs[f]? = some fn) (hb : fn.body = some c) (hn : fn.ntmps = n) (hl : args = l.toArray) (hs : Nat.ble l.length n = true)
    (h : ∀ ρ, c.wp P (bodyPost P fn R) (act n (enumFrom 0 l) ρ []) w) : Calls P f args w R := by
  subst hl
  refine calls_of_wp hf hb ?_
  rw [hn, act_enter n l.toArray (by simpa [Nat.ble_eq] using hs)]
  exact h _

/-! ## The walk's goals, as structures (so that nothing lays them open) -/
structure CW (P : Program) (c : Code) (Q : Exit → Act → World → Prop) (a : Act) (w : World) : Prop where
  out : c.wp P Q a w
structure WL (P : Program) (ops : List Oper) (Q : Exit → Act → World → Prop) (l : List Oper) (a : Act) (w : World) : Prop where
  out : wpList P ops.toArray Q l a w
structure OW (P : Program) (o : Oper) (a : Act) (w : World) (K : Act → World → Prop) (Q : Exit → Act → World → Prop) : Prop where
  out : Oper.wp P o a w K Q

/-! ## One operation -/
structure Yld (P : Program) (ρ : Operand → Value) (op : Op) (ty : TypeId) (w : World) (v : Value) : Prop where
  run : ∀ dst pos after g, (execOp ρ ⟨dst, op, ty, pos, after, g⟩).run P w = .ok (.value v) w

section
variable {P : Program} {ops : Array Oper} {Q : Exit → Act → World → Prop} {n : Nat} {Γ : Fr} {ρ : Nat → Value} {ds : List Deferred} {w : World}
  {l rest : List Oper} {op : Op} {ty : TypeId} {pos : String} {after : Array Edge} {d : Nat} {v : Value}

theorem Yld.wp {K : Act → World → Prop} (h : Yld P (ev n Γ ρ) op ty w v) {g : Option (Nat × Bool)} (hk : K (act n ((d, v) :: Γ) ρ ds) w) : Oper.wp P ⟨some d, op, ty, pos, after, g⟩ (act n Γ ρ ds) w K Q := by
  simp only [Oper.wp, eval_act, h.run _ _ _ _, Oper.upon_value, put_act]
  exact hk

theorem ow_y {K : Act → World → Prop} {g : Option (Nat × Bool)} (h : Yld P (ev n Γ ρ) op ty w v) (hk : K (act n ((d, v) :: Γ) ρ ds) w) : OW P ⟨some d, op, ty, pos, after, g⟩ (act n Γ ρ ds) w K Q := ⟨h.wp hk⟩

theorem l_q (h : Yld P (ev n Γ ρ) op ty w v) (hk : WL P l Q rest (act n ((d, v) :: Γ) ρ ds) w) :
    WL P l Q (⟨some d, op, ty, pos, after, none⟩ :: rest) (act n Γ ρ ds) w :=
  ⟨wpList_plain rfl fun _ hK => h.wp (hK _ _ hk.out)⟩

theorem l_w {dst : Option Nat} (h : OW P ⟨dst, op, ty, pos, after, none⟩ (act n Γ ρ ds) w (WL P l Q rest) Q) :
    WL P l Q (⟨dst, op, ty, pos, after, none⟩ :: rest) (act n Γ ρ ds) w := ⟨wpList_plain rfl fun _ hK => Oper.wp_mono (fun a w h => hK a w h.out) h.out⟩

theorem tmps_act (t : Nat) : (act n Γ ρ ds).tmps[t]? = if t < n then some (look Γ ρ t) else none := by
  simp only [act]
  by_cases h : t < n <;> simp [h]

def dstAt : List Oper → Nat → Option Nat
  | [], _ => none
  | o :: _, 0 => o.dst
  | _ :: r, j + 1 => dstAt r j

theorem dstAt_eq : ∀ (l : List Oper) (j : Nat), (l.toArray[j]?).bind (·.dst) = dstAt l j
  | [], j => by simp [dstAt]
  | o :: r, 0 => by simp [dstAt]
  | o :: r, j + 1 => by have := dstAt_eq r j; simp at this; simp [dstAt, this]

theorem yielded_act {j t : Nat} {b : Bool} (hj : (ops[j]?).bind (·.dst) = some t) (hb : ev n Γ ρ (.tmp t) = .bool b) : yielded ops (act n Γ ρ ds).tmps j = some b := by
  simp only [ev] at hb
  simp only [yielded, hj, Option.bind_some, tmps_act]
  by_cases h : t < n
  · simp only [blt_t h, cond_true] at hb
    simp [h, hb]
  · simp [blt_f h, undef] at hb

theorem l_gskip {j t : Nat} {want : Bool} (hj' : dstAt l j = some t) (hb : ev n Γ ρ (.tmp t) = .bool (!want)) (hk : WL P l Q rest (act n ((d, undef) :: Γ) ρ ds) w) :
    WL P l Q (⟨some d, op, ty, pos, after, some (j, want)⟩ :: rest) (act n Γ ρ ds) w := by
  have hj : (l.toArray[j]?).bind (·.dst) = some t := (dstAt_eq l j).trans hj'
  have : Region.wanted ⟨some d, op, ty, pos, after, some (j, want)⟩ (yielded l.toArray (act n Γ ρ ds).tmps) = false := by
    simp only [Region.wanted, yielded_act hj hb]; cases want <;> rfl
  constructor
  simp only [wpList, this, put_act]
  exact hk.out

theorem yielded_undef {j t : Nat} (hj : (ops[j]?).bind (·.dst) = some t) (hb : ev n Γ ρ (.tmp t) = undef) : yielded ops (act n Γ ρ ds).tmps j = none := by
  simp only [ev] at hb
  simp only [yielded, hj, Option.bind_some, tmps_act]
  by_cases h : t < n
  · simp only [blt_t h, cond_true] at hb
    simp [h, hb, undef]
  · simp [h]

theorem l_gskip_u {j t : Nat} {want : Bool} (hj' : dstAt l j = some t) (hb : ev n Γ ρ (.tmp t) = undef) (hk : WL P l Q rest (act n ((d, undef) :: Γ) ρ ds) w) :
    WL P l Q (⟨some d, op, ty, pos, after, some (j, want)⟩ :: rest) (act n Γ ρ ds) w := by
  have hj : (l.toArray[j]?).bind (·.dst) = some t := (dstAt_eq l j).trans hj'
  have : Region.wanted ⟨some d, op, ty, pos, after, some (j, want)⟩ (yielded l.toArray (act n Γ ρ ds).tmps) = false := by
    simp only [Region.wanted, yielded_undef hj hb]; rfl
  constructor
  simp only [wpList, this, put_act]
  exact hk.out

theorem l_gdo {j t : Nat} {want : Bool} (hj' : dstAt l j = some t) (hb : ev n Γ ρ (.tmp t) = .bool want) (h : Yld P (ev n Γ ρ) op ty w v)
    (hk : WL P l Q rest (act n ((d, v) :: Γ) ρ ds) w) :
    WL P l Q (⟨some d, op, ty, pos, after, some (j, want)⟩ :: rest) (act n Γ ρ ds) w := by
  have hj : (l.toArray[j]?).bind (·.dst) = some t := (dstAt_eq l j).trans hj'
  have : Region.wanted ⟨some d, op, ty, pos, after, some (j, want)⟩ (yielded l.toArray (act n Γ ρ ds).tmps) = true := by
    simp only [Region.wanted, yielded_act hj hb]; cases want <;> rfl
  constructor
  simp only [wpList, this, if_true]
  exact .inl (h.wp hk.out)

theorem l_gw {j t : Nat} {want : Bool} {dst : Option Nat} (hj' : dstAt l j = some t) (hb : ev n Γ ρ (.tmp t) = .bool want)
    (h : OW P ⟨dst, op, ty, pos, after, some (j, want)⟩ (act n Γ ρ ds) w (WL P l Q rest) Q) :
    WL P l Q (⟨dst, op, ty, pos, after, some (j, want)⟩ :: rest) (act n Γ ρ ds) w := by
  have hj : (l.toArray[j]?).bind (·.dst) = some t := (dstAt_eq l j).trans hj'
  have : Region.wanted ⟨dst, op, ty, pos, after, some (j, want)⟩ (yielded l.toArray (act n Γ ρ ds).tmps) = true := by
    simp only [Region.wanted, yielded_act hj hb]; cases want <;> rfl
  constructor
  simp only [wpList, this, if_true]
  exact .inl (Oper.wp_mono (fun _ _ h => h.out) h.out)
end

def enterB (P : Program) (f : FuncId) : Bool :=
  match P.funcs[f]? with
  | some fn => fn.name != "runtime.NumGoroutine" && fn.body.isSome
  | none => false

theorem run_call {P : Program} {w : World} {ρ : Operand → Value} {dst : Option Nat} {ty : TypeId} {pos : String} {after : Array Edge} {g : Option (Nat × Bool)} {f : FuncId} {cap : Array Value} {fop : Operand} {args : Array Operand}
    {tys : Array TypeId} {vs : List Value} (hf : ρ fop = .func (.func f) #[] cap) (he : enterB P f = true) (ha : args.toList.map ρ ++ cap.toList = vs) :
    (execOp ρ ⟨dst, .call ⟨.value fop, args, tys⟩, ty, pos, after, g⟩).run P w = .ok (.enter f vs.toArray) w := by
  unfold enterB at he
  cases hfn : P.funcs[f]? with
  | none => simp [hfn] at he
  | some fn =>
    simp only [hfn, Bool.and_eq_true, bne_iff_ne, ne_eq] at he
    have h2 : fn.body ≠ none := by intro hb; simp [hb] at he
    subst ha
    simp [execOp, resolve, Deferred.ofValue, hf, invoke, callFunc, hfn, he.1, h2]

/-! ## A region whose order is open -/
section
variable {P : Program} {ops : Array Oper} {Q : Exit → Act → World → Prop} {S : World → Prop} {z : Nat}

def closedL (ops : Array Oper) (listed : Array Bool) : Prop :=
  ∀ (k : Nat) (o : Oper), ops[k]? = some o → listed.getD k false = true → ∀ e ∈ o.after, Region.binds .any e = true → listed.getD e.on false = true

def sinkB (ops : Array Oper) (z : Nat) : Bool :=
  (List.range ops.size).all fun i => i == z || (List.range ops.size).any fun k => decide (i < k) && ((ops[k]?).map fun o => o.after.any fun e => Region.binds .any e && e.on == i).getD false

theorem sinkB_spec (h : sinkB ops z = true) {i : Nat} (hi : i < ops.size) (hz : i ≠ z) :
    ∃ k o, i < k ∧ ops[k]? = some o ∧ ∃ e ∈ o.after, Region.binds .any e = true ∧ e.on = i := by
  simp only [sinkB, List.all_eq_true, List.mem_range, Bool.or_eq_true, beq_iff_eq, List.any_eq_true, Bool.and_eq_true, decide_eq_true_eq] at h
  rcases h i hi with h | ⟨k, hk, hik, hm⟩
  · exact absurd h hz
  · cases ho : ops[k]? with
    | none => simp [ho] at hm
    | some o =>
      simp only [ho, Option.map_some, Option.getD_some, Array.any_eq_true] at hm
      obtain ⟨j, hj, he⟩ := hm
      simp only [Bool.and_eq_true, beq_iff_eq] at he
      exact ⟨k, o, hik, ho, o.after[j], by simp, he.1, he.2⟩

theorem size_listed {listed : Array Bool} {i : Nat} (h : listed.getD i true = false) : i < listed.size := by
  rcases Nat.lt_or_ge i listed.size with h' | h'
  · exact h'
  · simp [Array.getElem?_eq_none h'] at h

/-- Where the only sink may come up, all the others are listed. -/
theorem sink_last {listed : Array Bool} (hs : sinkB ops z = true) (hc : closedL ops listed)
    (hr : z ∈ Region.ready .any ops listed) : ∀ m i, ops.size - i ≤ m → i < ops.size → i ≠ z → listed.getD i false = true := by
  intro m
  induction m with
  | zero => intro i h1 h2; omega
  | succ m ih =>
    intro i h1 h2 h3
    obtain ⟨k, o, hik, hk, e, he, hb, hon⟩ := sinkB_spec hs h2 h3
    have hks : k < ops.size := by
      rcases Nat.lt_or_ge k ops.size with h | h
      · exact h
      · simp [Array.getElem?_eq_none h] at hk
    by_cases hkz : k = z
    · subst hkz
      obtain ⟨_, oz, hoz, hall⟩ := mem_ready.1 hr
      rw [hk] at hoz
      cases hoz
      have := hall e he hb
      rw [hon] at this
      exact this
    · have := hc k o hk (ih k (by omega) hks hkz) e he hb
      rw [hon] at this
      exact this

/-- In state 'a', in every world that meets S, operation o leaves v in its temporary and the world as it is: by itself, or by a call that only computes. -/
def YC (P : Program) (ops : Array Oper) (S : World → Prop) (o : Oper) (v : Value) (a : Act) : Prop :=
  (Region.wanted o (yielded ops a.tmps) = true ∧ ∀ w, S w → (execOp a.eval o).run P w = .ok (.value v) w ∨
    ∃ f args, (execOp a.eval o).run P w = .ok (.enter f args) w ∧ Calls P f args w (fun e w' => e = .returned v ∧ w' = w)) ∨
  (Region.wanted o (yielded ops a.tmps) = false ∧ v = undef)

theorem YC.wpOp {i : Nat} {o : Oper} {v : Value} {a : Act} (hi : ops[i]? = some o) (hy : YC P ops S o v a) {K : Act → World → Prop} {w : World} (hS : S w) (h : K (a.put o.dst v) w) : wpOp P ops Q i K a w := by
  unfold Go.wpOp
  simp only [hi]
  rcases hy with ⟨hw, hv⟩ | ⟨hw, rfl⟩
  · simp only [hw, if_true, Oper.wp]
    rcases hv w hS with hv | ⟨f, args, hv, hc⟩
    · simp only [hv, Oper.upon]; exact .inl h
    · simp only [hv, Oper.upon]
      exact .inl (hc.mono fun e w' ⟨he, hw'⟩ => by subst he; subst hw'; exact h)
  · simp only [hw, Bool.false_eq_true, if_false]; exact h

theorem YC.of_same {o : Oper} {v : Value} {a a' : Act} (hy : YC P ops S o v a) (he : execOp a'.eval o = execOp a.eval o)
    (hw : Region.wanted o (yielded ops a'.tmps) = Region.wanted o (yielded ops a.tmps)) : YC P ops S o v a' := by
  unfold YC at *
  rw [he, hw]
  exact hy

theorem wpOp_putC {j : Nat} {oi oj : Oper} {v : Value} (hj : ops[j]? = some oj) (hap : oi.apart ops oj = true)
    (hsi : ∀ cs b, oi.op ≠ .select cs b) (hsj : ∀ cs b, oj.op ≠ .select cs b)
    (hQ : ∀ c a w, Q (.panic c) (a.put oi.dst v) w → Q (.panic c) a w) {K : Act → World → Prop} {a : Act} {w : World}
    (hy : YC P ops S oi v a) (h : wpOp P ops Q j K (a.put oi.dst v) w) :
    wpOp P ops Q j (fun a' w' => YC P ops S oi v a' ∧ K (a'.put oi.dst v) w') a w := by
  obtain ⟨h1, h2, h3⟩ := Oper.apart_spec hap
  have kp : ∀ (a : Act), YC P ops S oi v a → ∀ u, YC P ops S oi v (a.put oj.dst u) := fun a hy u =>
    hy.of_same (execOp_put oi hsi a oj.dst u h3) (wanted_put oi a oj.dst u h3)
  have kpD : ∀ d, YC P ops S oi v { a with defers := d :: a.defers } := fun d => hy.of_same rfl rfl
  unfold wpOp at *
  simp only [hj] at *
  rw [wanted_put oj a oi.dst v h1] at h
  split
  · rename_i hw
    simp only [hw, if_true] at h
    rcases h with h | ⟨hasks, hlets⟩
    case inr => exact .inr ⟨by unfold Oper.asks at *; rw [execOp_put oj hsj a oi.dst v h1] at hasks; exact hasks, hlets⟩
    refine .inl ?_
    unfold Oper.wp at *
    rw [execOp_put oj hsj a oi.dst v h1] at h
    generalize (execOp a.eval oj).run P w = r at *
    cases r with
    | ok n w' =>
      cases n <;> simp only [Oper.upon] at h ⊢
      case value u => exact ⟨kp a hy u, by rw [← Act.put_comm a v u h2]; exact h⟩
      case skip => exact ⟨kp a hy _, by rw [← Act.put_comm a v undef h2]; exact h⟩
      case defer d =>
        refine ⟨kp _ (kpD d) _, ?_⟩
        rw [← Act.put_comm _ v undef h2, ← Act.put_defers]
        exact h
      case enter f args =>
        refine Calls.mono h fun e w'' he => ?_
        cases e with
        | returned u => exact ⟨kp a hy u, by rw [← Act.put_comm a v u h2]; exact he⟩
        | panicked c => exact hQ _ _ _ he
        | outgrown => exact he
      case row row args => exact Rows.mono h fun u w'' he => ⟨kp a hy u, by rw [← Act.put_comm a v u h2]; exact he⟩
    | halt x w' =>
      cases x <;> simp only [Oper.upon] at h ⊢
      case panic u => exact hQ _ _ _ h
  · rename_i hw
    simp only [hw] at h
    exact ⟨kp a hy _, by rw [← Act.put_comm a v undef h2]; exact h⟩

def wpAnyJ (P : Program) (ops : Array Oper) (Q : Exit → Act → World → Prop) (S : World → Prop) (z : Nat) : Nat → Array Bool → Act → World → Prop
  | 0, listed, a, w => Region.ready .any ops listed = [] ∧ Q .normal a w
  | fuel + 1, listed, a, w =>
    (Region.ready .any ops listed = [] → Q .normal a w) ∧
    ∀ i ∈ Region.ready .any ops listed, wpOp P ops Q i (fun a' w' => (i ≠ z → S w') ∧ wpAnyJ P ops Q S z fuel (listed.setIfInBounds i true) a' w') a w

theorem wpAny_of_J : ∀ (fuel : Nat) (listed : Array Bool) (a : Act) (w : World), wpAnyJ P ops Q S z fuel listed a w → wpAny P .any ops Q fuel listed a w
  | 0, _, _, _, h => h
  | fuel + 1, _, _, _, h => ⟨h.1, fun i hi => wpOp_mono (fun a' w' h' => wpAny_of_J fuel _ a' w' h'.2) (h.2 i hi)⟩

theorem closedL_set {listed : Array Bool} (hc : closedL ops listed) {j : Nat} (hj : j ∈ Region.ready .any ops listed) : closedL ops (listed.setIfInBounds j true) := by
  intro k o hk hl e he hb
  obtain ⟨hun, oj, hoj, hall⟩ := mem_ready.1 hj
  have hjs := size_listed hun
  have up : ∀ t, listed.getD t false = true → (listed.setIfInBounds j true).getD t false = true := by
    intro t ht
    by_cases hjt : j = t
    · subst hjt; simp [hjs]
    · simpa [Array.getElem?_setIfInBounds_ne hjt] using ht
  by_cases hjk : j = k
  · subst hjk
    rw [hk] at hoj
    cases hoj
    exact up _ (hall e he hb)
  · have : listed.getD k false = true := by simpa [Array.getElem?_setIfInBounds_ne hjk] using hl
    exact up _ (hc k o hk this e he hb)

theorem wpAnyJ_first {i : Nat} {oi : Oper} {v : Value} (hi : ops[i]? = some oi) (hsel : ∀ (j : Nat) (o : Oper) cs b, ops[j]? = some o → o.op ≠ .select cs b)
    (hQ : ∀ c a w, Q (.panic c) (a.put oi.dst v) w → Q (.panic c) a w) (hz : z < ops.size → sinkB ops z = true) :
    ∀ (fuel : Nat) (listed : Array Bool) (a : Act) (w : World), closedL ops listed → listed.size = ops.size →
      (∀ j oj, ops[j]? = some oj → j ≠ i → listed.getD j true = false → (∀ e ∈ oj.after, Region.binds .any e = true → e.on ≠ i) → oi.apart ops oj = true) →
      i ∈ Region.ready .any ops listed → YC P ops S oi v a → S w →
      wpAnyJ P ops Q S z fuel (listed.setIfInBounds i true) (a.put oi.dst v) w → wpAnyJ P ops Q S z (fuel + 1) listed a w := by
  intro fuel
  induction fuel with
  | zero =>
    intro listed a w _ _ _ hr hy hS H
    refine ⟨fun h => (by rw [h] at hr; cases hr), fun j hj => ?_⟩
    by_cases hji : j = i
    · subst hji; exact hy.wpOp hi hS ⟨fun _ => hS, H⟩
    · have := ready_mono hj hji
      rw [H.1] at this
      cases this
  | succ fuel ih =>
    intro listed a w hc hsz hfree hr hy hS H
    refine ⟨fun h => (by rw [h] at hr; cases hr), fun j hj => ?_⟩
    by_cases hji : j = i
    · subst hji; exact hy.wpOp hi hS ⟨fun _ => hS, H⟩
    · have h1 := H.2 j (ready_mono hj hji)
      obtain ⟨hjun, oj, hoj, hall⟩ := mem_ready.1 hj
      have hjz : j ≠ z := by
        intro h
        subst h
        have hjs : j < ops.size := by
          rcases Nat.lt_or_ge j ops.size with h | h
          · exact h
          · simp [Array.getElem?_eq_none h] at hoj
        have hun := (mem_ready.1 hr).1
        have his : i < ops.size := by rw [← hsz]; exact size_listed hun
        have := sink_last (hz hjs) hc hj (ops.size) i (by omega) his (Ne.symm hji)
        have h2 := size_listed hun
        simp [h2] at this hun
        rw [this] at hun
        cases hun
      have hnot : ∀ e ∈ oj.after, Region.binds .any e = true → e.on ≠ i := fun e he hb heq => by
        have h1 := hall e he hb
        have h0 := (mem_ready.1 hr).1
        rw [heq] at h1
        have h' := size_listed h0
        simp [h'] at h0 h1; rw [h0] at h1; cases h1
      have h2 := wpOp_putC hoj (hfree j oj hoj hji hjun hnot) (fun cs b => hsel i oi cs b hi) (fun cs b => hsel j oj cs b hoj) hQ hy h1
      have hfree' : ∀ k ok, ops[k]? = some ok → k ≠ i → (listed.setIfInBounds j true).getD k true = false →
          (∀ e ∈ ok.after, Region.binds .any e = true → e.on ≠ i) → oi.apart ops ok = true := fun k ok hk hki hun hno => by
        refine hfree k ok hk hki ?_ hno
        by_cases hjk : j = k
        · subst hjk; exact hjun
        · rw [getD_set_ne true hjk] at hun; exact hun
      refine wpOp_mono (fun a' w' h3 => ?_) h2
      have hS' := h3.2.1 hjz
      refine ⟨fun _ => hS', ih (listed.setIfInBounds j true) a' w' (closedL_set hc hj) (by simpa using hsz) hfree' (ready_mono hr (Ne.symm hji)) h3.1 hS' ?_⟩
      rw [Array.setIfInBounds_comm _ _ hji]
      exact h3.2.2

/-- In which order a region is walked: q: taken first, whatever comes; w: alone may come up; w2, w3: two, three may come up. -/
inductive Sch where
  | nil
  | q (i : Nat) (r : Sch)
  | w (i : Nat) (r : Sch)
  | w2 (i : Nat) (r : Sch) (j : Nat) (s : Sch)
  | w3 (i : Nat) (r : Sch) (j : Nat) (s : Sch) (k : Nat) (t : Sch)

def canOk (ops : Array Oper) : Nat → Array Bool → Sch → Bool
  | 0, listed, .nil => (Region.ready .any ops listed).isEmpty
  | m + 1, listed, .q i r => (Region.ready .any ops listed).contains i && Region.free .any ops listed i && canOk ops m (listed.setIfInBounds i true) r
  | m + 1, listed, .w i r => Region.ready .any ops listed == [i] && canOk ops m (listed.setIfInBounds i true) r
  | m + 1, listed, .w2 i r j s => Region.ready .any ops listed == [i, j] && canOk ops m (listed.setIfInBounds i true) r && canOk ops m (listed.setIfInBounds j true) s
  | m + 1, listed, .w3 i r j s k t => Region.ready .any ops listed == [i, j, k] && canOk ops m (listed.setIfInBounds i true) r && canOk ops m (listed.setIfInBounds j true) s && canOk ops m (listed.setIfInBounds k true) t
  | _, _, _ => false

def canB (ops : Array Oper) (z : Nat) (order : Sch) : Bool :=
  Region.noSelect ops && (z ≥ ops.size || sinkB ops z) && canOk ops ops.size (Array.replicate ops.size false) order

def wpCan (P : Program) (ops : Array Oper) (Q : Exit → Act → World → Prop) (S : World → Prop) (z : Nat) : Sch → Act → World → Prop
  | .nil, a, w => Q .normal a w
  | .q i r, a, w => S w ∧ ∃ o v, ops[i]? = some o ∧ YC P ops S o v a ∧ (∀ c a w, Q (.panic c) (a.put o.dst v) w → Q (.panic c) a w) ∧ wpCan P ops Q S z r (a.put o.dst v) w
  | .w i r, a, w => wpOp P ops Q i (fun a' w' => (i ≠ z → S w') ∧ wpCan P ops Q S z r a' w') a w
  | .w2 i r j s, a, w => wpOp P ops Q i (fun a' w' => (i ≠ z → S w') ∧ wpCan P ops Q S z r a' w') a w ∧ wpOp P ops Q j (fun a' w' => (j ≠ z → S w') ∧ wpCan P ops Q S z s a' w') a w
  | .w3 i r j s k t, a, w => wpOp P ops Q i (fun a' w' => (i ≠ z → S w') ∧ wpCan P ops Q S z r a' w') a w ∧ wpOp P ops Q j (fun a' w' => (j ≠ z → S w') ∧ wpCan P ops Q S z s a' w') a w ∧
      wpOp P ops Q k (fun a' w' => (k ≠ z → S w') ∧ wpCan P ops Q S z t a' w') a w

theorem wpAnyJ_of_can (hsel : Region.noSelect ops = true) (hz : z < ops.size → sinkB ops z = true) : ∀ (order : Sch) (m : Nat) (listed : Array Bool) (a : Act) (w : World),
    closedL ops listed → listed.size = ops.size → canOk ops m listed order = true → wpCan P ops Q S z order a w → wpAnyJ P ops Q S z m listed a w := by
  intro order
  induction order with
  | nil =>
    intro m listed a w _ _ hB h
    cases m with
    | zero => exact ⟨by simpa [canOk] using hB, h⟩
    | succ m => simp [canOk] at hB
  | q i r ih =>
    intro m listed a w hc hsz hB h
    cases m with
    | zero => simp [canOk] at hB
    | succ m =>
      simp only [canOk, Bool.and_eq_true] at hB
      obtain ⟨⟨hr, hf⟩, hB⟩ := hB
      obtain ⟨hS, o, v, ho, hy, hQ, hk⟩ := h
      have hr' : i ∈ Region.ready .any ops listed := by simpa using hr
      exact wpAnyJ_first ho (Region.noSelect_spec hsel) hQ hz m listed a w hc hsz (Region.free_spec ho hf) hr' hy hS
        (ih _ _ _ _ (closedL_set hc hr') (by simpa using hsz) hB hk)
  | w i r ih =>
    intro m listed a w hc hsz hB h
    cases m with
    | zero => simp [canOk] at hB
    | succ m =>
      simp only [canOk, Bool.and_eq_true, beq_iff_eq] at hB
      obtain ⟨hr, hB⟩ := hB
      have hi : i ∈ Region.ready .any ops listed := by rw [hr]; simp
      refine ⟨fun h0 => absurd (hr.symm.trans h0) (by simp), fun j hj => ?_⟩
      rw [hr] at hj
      obtain rfl := List.mem_singleton.1 hj
      exact wpOp_mono (fun a' w' h' => ⟨h'.1, ih _ _ a' w' (closedL_set hc hi) (by simpa using hsz) hB h'.2⟩) h
  | w2 i r j s ihr ihs =>
    intro m listed a w hc hsz hB h
    cases m with
    | zero => simp [canOk] at hB
    | succ m =>
      simp only [canOk, Bool.and_eq_true, beq_iff_eq] at hB
      obtain ⟨⟨hr, hB1⟩, hB2⟩ := hB
      refine ⟨fun h0 => absurd (hr.symm.trans h0) (by simp), fun x hx => ?_⟩
      have hx' := hx
      rw [hr] at hx'
      simp only [List.mem_cons, List.not_mem_nil, or_false] at hx'
      rcases hx' with rfl | rfl
      · exact wpOp_mono (fun a' w' h' => ⟨h'.1, ihr _ _ a' w' (closedL_set hc hx) (by simpa using hsz) hB1 h'.2⟩) h.1
      · exact wpOp_mono (fun a' w' h' => ⟨h'.1, ihs _ _ a' w' (closedL_set hc hx) (by simpa using hsz) hB2 h'.2⟩) h.2
  | w3 i r j s k t ihr ihs iht =>
    intro m listed a w hc hsz hB h
    cases m with
    | zero => simp [canOk] at hB
    | succ m =>
      simp only [canOk, Bool.and_eq_true, beq_iff_eq] at hB
      obtain ⟨⟨⟨hr, hB1⟩, hB2⟩, hB3⟩ := hB
      refine ⟨fun h0 => absurd (hr.symm.trans h0) (by simp), fun x hx => ?_⟩
      have hx' := hx
      rw [hr] at hx'
      simp only [List.mem_cons, List.not_mem_nil, or_false] at hx'
      rcases hx' with rfl | rfl | rfl
      · exact wpOp_mono (fun a' w' h' => ⟨h'.1, ihr _ _ a' w' (closedL_set hc hx) (by simpa using hsz) hB1 h'.2⟩) h.1
      · exact wpOp_mono (fun a' w' h' => ⟨h'.1, ihs _ _ a' w' (closedL_set hc hx) (by simpa using hsz) hB2 h'.2⟩) h.2.1
      · exact wpOp_mono (fun a' w' h' => ⟨h'.1, iht _ _ a' w' (closedL_set hc hx) (by simpa using hsz) hB3 h'.2⟩) h.2.2

structure WC (P : Program) (ops : List Oper) (Q : Exit → Act → World → Prop) (S : World → Prop) (z : Nat) (order : Sch) (a : Act) (w : World) : Prop where
  out : wpCan P ops.toArray Q S z order a w

theorem r_draw {ops : List Oper} {id : Nat} {a : Act} {w : World} (order : Sch) (z : Nat) (S : World → Prop) (hm : P.follows .mixedOrders = true) (hB : canB ops.toArray z order = true)
    (h : WC P ops Q S z order a w.drew) : CW P (Code.region id ops.toArray true) Q a w := by
  simp only [canB, Bool.and_eq_true, Bool.or_eq_true, decide_eq_true_eq] at hB
  obtain ⟨⟨hs, hz⟩, hc⟩ := hB
  constructor
  refine wp_region_any hm (wpAny_of_J (S := S) (z := z) _ _ _ _ ?_)
  refine wpAnyJ_of_can hs (fun hlt => hz.resolve_left (by omega)) order _ _ a _ ?_ (by simp) hc h.out
  intro k o hk hl
  simp at hl
  by_cases h : k < ops.length <;> simp [h] at hl

variable {l : List Oper} {n : Nat} {Γ : Fr} {ρ : Nat → Value} {ds : List Deferred} {w : World} {rest r' r'' : Sch} {op : Op} {ty : TypeId} {pos : String} {after : Array Edge} {d i : Nat} {v : Value}

def opAt : List Oper → Nat → Option Oper
  | [], _ => none
  | o :: _, 0 => some o
  | _ :: r, j + 1 => opAt r j

theorem opAt_eq : ∀ (l : List Oper) (j : Nat), l.toArray[j]? = opAt l j
  | [], j => by simp [opAt]
  | o :: r, 0 => by simp [opAt]
  | o :: r, j + 1 => by have := opAt_eq r j; simp at this; simp [opAt, this]

theorem c_q (hi : opAt l i = some ⟨some d, op, ty, pos, after, none⟩) (hS : S w) (hQ : ∀ c a w, Q (.panic c) (a.put (some d) v) w → Q (.panic c) a w)
    (h : ∀ w, S w → Yld P (ev n Γ ρ) op ty w v) (hk : WC P l Q S z rest (act n ((d, v) :: Γ) ρ ds) w) : WC P l Q S z (.q i rest) (act n Γ ρ ds) w := by
  refine ⟨hS, _, v, (opAt_eq l i).trans hi, .inl ⟨rfl, fun w hw => .inl ?_⟩, hQ, ?_⟩
  · rw [eval_act]; exact (h w hw).run _ _ _ _
  · rw [put_act]; exact hk.out

theorem c_gskip {j t : Nat} {want : Bool} (hi : opAt l i = some ⟨some d, op, ty, pos, after, some (j, want)⟩) (hS : S w) (hQ : ∀ c a w, Q (.panic c) (a.put (some d) undef) w → Q (.panic c) a w)
    (hj' : dstAt l j = some t) (hb : ev n Γ ρ (.tmp t) = .bool (!want)) (hk : WC P l Q S z rest (act n ((d, undef) :: Γ) ρ ds) w) : WC P l Q S z (.q i rest) (act n Γ ρ ds) w := by
  have hj : (l.toArray[j]?).bind (·.dst) = some t := (dstAt_eq l j).trans hj'
  refine ⟨hS, _, undef, (opAt_eq l i).trans hi, .inr ⟨?_, rfl⟩, hQ, ?_⟩
  · simp only [Region.wanted, yielded_act hj hb]; cases want <;> rfl
  · rw [put_act]; exact hk.out

theorem c_gskip_u {j t : Nat} {want : Bool} (hi : opAt l i = some ⟨some d, op, ty, pos, after, some (j, want)⟩) (hS : S w) (hQ : ∀ c a w, Q (.panic c) (a.put (some d) undef) w → Q (.panic c) a w)
    (hj' : dstAt l j = some t) (hb : ev n Γ ρ (.tmp t) = undef) (hk : WC P l Q S z rest (act n ((d, undef) :: Γ) ρ ds) w) : WC P l Q S z (.q i rest) (act n Γ ρ ds) w := by
  have hj : (l.toArray[j]?).bind (·.dst) = some t := (dstAt_eq l j).trans hj'
  refine ⟨hS, _, undef, (opAt_eq l i).trans hi, .inr ⟨?_, rfl⟩, hQ, ?_⟩
  · simp only [Region.wanted, yielded_undef hj hb]; rfl
  · rw [put_act]; exact hk.out

theorem c_gdo {j t : Nat} {want : Bool} (hi : opAt l i = some ⟨some d, op, ty, pos, after, some (j, want)⟩) (hS : S w) (hQ : ∀ c a w, Q (.panic c) (a.put (some d) v) w → Q (.panic c) a w)
    (hj' : dstAt l j = some t) (hb : ev n Γ ρ (.tmp t) = .bool want) (h : ∀ w, S w → Yld P (ev n Γ ρ) op ty w v)
    (hk : WC P l Q S z rest (act n ((d, v) :: Γ) ρ ds) w) : WC P l Q S z (.q i rest) (act n Γ ρ ds) w := by
  have hj : (l.toArray[j]?).bind (·.dst) = some t := (dstAt_eq l j).trans hj'
  refine ⟨hS, _, v, (opAt_eq l i).trans hi, .inl ⟨?_, fun w hw => .inl ?_⟩, hQ, ?_⟩
  · simp only [Region.wanted, yielded_act hj hb]; cases want <;> rfl
  · rw [eval_act]; exact (h w hw).run _ _ _ _
  · rw [put_act]; exact hk.out

/-- An operation that is carried out: behind it the condition is shown anew (but behind the region's last). -/
theorem c_w {dst : Option Nat} (hi : opAt l i = some ⟨dst, op, ty, pos, after, none⟩) (h : OW P ⟨dst, op, ty, pos, after, none⟩ (act n Γ ρ ds) w (fun a' w' => (i ≠ z → S w') ∧ WC P l Q S z rest a' w') Q) :
    WC P l Q S z (.w i rest) (act n Γ ρ ds) w := by
  constructor
  simp only [wpCan, wpOp, opAt_eq, hi, Region.wanted, if_true]
  exact .inl (Oper.wp_mono (fun _ _ h => ⟨h.1, h.2.out⟩) h.out)

theorem c_w2 {j : Nat} {o1 o2 : Oper} (hi : opAt l i = some o1) (hj : opAt l j = some o2) (g1 : o1.guard = none) (g2 : o2.guard = none)
    (h1 : OW P o1 (act n Γ ρ ds) w (fun a' w' => (i ≠ z → S w') ∧ WC P l Q S z rest a' w') Q) (h2 : OW P o2 (act n Γ ρ ds) w (fun a' w' => (j ≠ z → S w') ∧ WC P l Q S z r' a' w') Q) :
    WC P l Q S z (.w2 i rest j r') (act n Γ ρ ds) w := by
  constructor
  simp only [wpCan, wpOp, opAt_eq, hi, hj, Region.wanted, g1, g2, if_true]
  exact ⟨.inl (Oper.wp_mono (fun _ _ h => ⟨h.1, h.2.out⟩) h1.out), .inl (Oper.wp_mono (fun _ _ h => ⟨h.1, h.2.out⟩) h2.out)⟩
theorem c_w3 {j k : Nat} {o1 o2 o3 : Oper} (hi : opAt l i = some o1) (hj : opAt l j = some o2) (hk : opAt l k = some o3) (g1 : o1.guard = none) (g2 : o2.guard = none) (g3 : o3.guard = none)
    (h1 : OW P o1 (act n Γ ρ ds) w (fun a' w' => (i ≠ z → S w') ∧ WC P l Q S z rest a' w') Q) (h2 : OW P o2 (act n Γ ρ ds) w (fun a' w' => (j ≠ z → S w') ∧ WC P l Q S z r' a' w') Q)
    (h3 : OW P o3 (act n Γ ρ ds) w (fun a' w' => (k ≠ z → S w') ∧ WC P l Q S z r'' a' w') Q) :
    WC P l Q S z (.w3 i rest j r' k r'') (act n Γ ρ ds) w := by
  constructor
  simp only [wpCan, wpOp, opAt_eq, hi, hj, hk, Region.wanted, g1, g2, g3, if_true]
  exact ⟨.inl (Oper.wp_mono (fun _ _ h => ⟨h.1, h.2.out⟩) h1.out), .inl (Oper.wp_mono (fun _ _ h => ⟨h.1, h.2.out⟩) h2.out), .inl (Oper.wp_mono (fun _ _ h => ⟨h.1, h.2.out⟩) h3.out)⟩

theorem c_last {a : Act} (hz : Nat.beq i z = true) (h : WC P l Q S z rest a w) : (i ≠ z → S w) ∧ WC P l Q S z rest a w :=
  ⟨fun hne => absurd (Nat.eq_of_beq_eq_true hz) hne, h⟩
end
end PB

/-! ## The blocks of the call's own -/
namespace PB
open Go Go.RowKit

inductive MObj where
  | cells (cs : List Value) (e : TypeId)
  | obj (o : Obj)

def MObj.toObj : MObj → Obj
  | .cells cs e => .cells cs.toArray e (0, 0)
  | .obj o => o

structure St (W0 w : World) (L : List (Nat × MObj)) : Prop where
  below : Below W0.heap.size W0 w
  own : ∀ p ∈ L, W0.heap.size ≤ p.1 ∧ w.heap[p.1]? = some p.2.toObj
  nd : (L.map (·.1)).Nodup

/-- Block b holds o. -/
class InL (b : Nat) (o : outParam MObj) (L : List (Nat × MObj)) : Prop where
  mem : (b, o) ∈ L
instance (priority := high) InL.head {b : Nat} {o : MObj} {L : List (Nat × MObj)} : InL b o ((b, o) :: L) := ⟨List.mem_cons_self ..⟩
instance InL.tail {b : Nat} {o : MObj} {p : Nat × MObj} {L : List (Nat × MObj)} [h : InL b o L] : InL b o (p :: L) := ⟨List.mem_cons_of_mem _ h.mem⟩

/-- L' is L, but that block b holds o. -/
class Upd (b : Nat) (o : MObj) (L : List (Nat × MObj)) (L' : outParam (List (Nat × MObj))) : Prop where
  at_ : ∃ pre suf o0, L = pre ++ (b, o0) :: suf ∧ L' = pre ++ (b, o) :: suf
instance (priority := high) Upd.head {b : Nat} {o o0 : MObj} {L : List (Nat × MObj)} : Upd b o ((b, o0) :: L) ((b, o) :: L) := ⟨[], L, o0, rfl, rfl⟩
instance Upd.tail {b : Nat} {o : MObj} {p : Nat × MObj} {L L' : List (Nat × MObj)} [h : Upd b o L L'] : Upd b o (p :: L) (p :: L') := by
  obtain ⟨pre, suf, o0, rfl, rfl⟩ := h.at_
  exact ⟨p :: pre, suf, o0, rfl, rfl⟩

/-- L is L' with block b taken out. -/
class Sel (b : Nat) (o : outParam MObj) (L : List (Nat × MObj)) (L' : outParam (List (Nat × MObj))) : Prop where
  at_ : ∃ pre suf, L = pre ++ (b, o) :: suf ∧ L' = pre ++ suf
instance (priority := high) Sel.head {b : Nat} {o : MObj} {L : List (Nat × MObj)} : Sel b o ((b, o) :: L) L := ⟨[], L, rfl, rfl⟩
instance Sel.tail {b : Nat} {o : MObj} {p : Nat × MObj} {L L' : List (Nat × MObj)} [h : Sel b o L L'] : Sel b o (p :: L) (p :: L') := by
  obtain ⟨pre, suf, rfl, rfl⟩ := h.at_
  exact ⟨p :: pre, suf, rfl, rfl⟩

theorem World.lt_of_some {w : World} {b : Nat} {o : Obj} (h : w.heap[b]? = some o) : b < w.heap.size := by
  rcases Nat.lt_or_ge b w.heap.size with h' | h'
  · exact h'
  · simp [Array.getElem?_eq_none h'] at h

section
variable {W0 w : World} {L L' : List (Nat × MObj)} {b off : Nat} {cs : List Value} {e : TypeId} {v : Value} {o : MObj}

theorem St.start (W0 : World) : St W0 W0 [] := ⟨Below.refl _ _, by simp, by simp⟩

theorem St.drew (h : St W0 w L) : St W0 w.drew L := ⟨h.below.drew, h.own, h.nd⟩
theorem St.drewN (h : St W0 w L) (k : Nat) : St W0 (w.drewN k) L := ⟨⟨h.below.os, h.below.tape, h.below.output, h.below.size, h.below.block⟩, h.own, h.nd⟩

theorem St.perm (h : St W0 w L) (hp : L.Perm L') : St W0 w L' :=
  ⟨h.below, fun p hm => h.own p (hp.mem_iff.2 hm), (hp.map _).nodup_iff.1 h.nd⟩

theorem St.sub (h : St W0 w L) (hs : L'.Sublist L) : St W0 w L' :=
  ⟨h.below, fun p hm => h.own p (hs.subset hm), (hs.map _).nodup h.nd⟩

theorem St.tail {p : Nat × MObj} (h : St W0 w (p :: L)) : St W0 w L := h.sub (List.sublist_cons_self ..)

theorem St.nil (h : St W0 w L) : St W0 w [] := h.sub (List.nil_sublist _)

theorem St.front (h : St W0 w L) (b : Nat) {o : MObj} [s : Sel b o L L'] : St W0 w ((b, o) :: L') := by
  obtain ⟨pre, suf, rfl, rfl⟩ := s.at_
  exact h.perm List.perm_middle

theorem St.lt (h : St W0 w L) (hm : (b, o) ∈ L) : b < w.heap.size := World.lt_of_some (h.own _ hm).2

theorem St.cell (h : St W0 w L) (hm : (b, .cells cs e) ∈ L) : w.cell? ⟨b, off, none⟩ = cs[off]? := by
  simp [World.cell?, (h.own _ hm).2, MObj.toObj]

theorem St.free (h : St W0 w L) (hm : (b, .cells cs e) ∈ L) : w.frozen? ⟨b, off, none⟩ = false := by
  simp [World.frozen?, (h.own _ hm).2, MObj.toObj]

theorem St.shape (h : St W0 w L) (hm : (b, .cells cs e) ∈ L) : w.shape? b = some (e, cs.length) := by
  simp [World.shape?, (h.own _ hm).2, MObj.toObj]

theorem St.heap (h : St W0 w L) (hm : (b, o) ∈ L) : w.heap[b]? = some o.toObj := (h.own _ hm).2

/-- What lies in a block of the call's own is written anew. -/
theorem St.write (h : St W0 w L) {w' : World} (hw : w'.os = w.os ∧ w'.tape = w.tape ∧ w'.output = w.output ∧ w'.heap.size = w.heap.size)
    [u : Upd b o L L'] (hb : w'.heap[b]? = some o.toObj) (ho : ∀ k, k ≠ b → w'.heap[k]? = w.heap[k]?) : St W0 w' L' := by
  obtain ⟨pre, suf, o0, rfl, rfl⟩ := u.at_
  have hmem : (b, o0) ∈ pre ++ (b, o0) :: suf := by simp
  have hge := (h.own _ hmem).1
  have hnd := h.nd
  simp only [List.map_append, List.map_cons] at hnd
  have hne : ∀ p, p ∈ pre ∨ p ∈ suf → p.1 ≠ b := by
    intro p hp heq
    rw [List.nodup_append] at hnd
    rcases hp with hp | hp
    · exact hnd.2.2 p.1 (List.mem_map_of_mem hp) b (by simp) heq
    · have := hnd.2.1
      rw [List.nodup_cons] at this
      exact this.1 (heq ▸ List.mem_map_of_mem hp)
  refine ⟨h.below.trans ⟨hw.1, hw.2.1, hw.2.2.1, by omega, fun k hk => ho k (by simp at hge; omega)⟩, fun p hp => ?_, by simpa using h.nd⟩
  simp only [List.mem_append, List.mem_cons] at hp
  rcases hp with hp | rfl | hp
  · have := h.own p (by simp [hp]); exact ⟨this.1, by rw [ho _ (hne p (.inl hp))]; exact this.2⟩
  · exact ⟨hge, hb⟩
  · have := h.own p (by simp [hp]); exact ⟨this.1, by rw [ho _ (hne p (.inr hp))]; exact this.2⟩

theorem St.setCell (h : St W0 w L) (hm : (b, .cells cs e) ∈ L) (v : Value) [u : Upd b (.cells (cs.set off v) e) L L'] : St W0 (w.setCell ⟨b, off, none⟩ v) L' := by
  have hh := h.heap hm
  refine h.write (u := u) ⟨rfl, rfl, rfl, by simp [World.setCell]⟩ ?_ (fun k hk => Below.heap_setCell _ _ _ _ hk)
  simp only [MObj.toObj] at hh ⊢
  simp [World.setCell, hh, Array.getElem?_modify]

theorem St.alloc (h : St W0 w L) (o : MObj) : St W0 (w.alloc o.toObj) ((w.heap.size, o) :: L) := by
  refine ⟨h.below.alloc h.below.size _, fun p hp => ?_, ?_⟩
  · rcases List.mem_cons.1 hp with rfl | hp
    · exact ⟨h.below.size, by show (w.heap.push _)[w.heap.size]? = _; simp⟩
    · have := h.own p hp
      exact ⟨this.1, by rw [Below.heap_alloc _ _ _ (World.lt_of_some this.2)]; exact this.2⟩
  · rw [List.map_cons, List.nodup_cons]
    refine ⟨fun hm => ?_, h.nd⟩
    obtain ⟨p, hp, heq⟩ := List.mem_map.1 hm
    have := h.lt (b := p.1) (o := p.2) hp
    simp only at heq
    omega

theorem St.setObj (h : St W0 w L) {o0 o1 : Obj} (hm : (b, .obj o0) ∈ L) [u : Upd b (.obj o1) L L'] : St W0 { w with heap := w.heap.setIfInBounds b o1 } L' := by
  have hlt := h.lt hm
  refine h.write (u := u) ⟨rfl, rfl, rfl, by simp⟩ ?_ (fun k hk => ?_)
  · simp [hlt, MObj.toObj]
  · simp [Array.getElem?_setIfInBounds_ne (Ne.symm hk)]

/-- A cell of what was there before. -/
theorem St.old (h : St W0 w L) {a : Addr} (ha : a.block < W0.heap.size) : w.cell? a = W0.cell? a := h.below.cell ha
end

/-! ## Facts on types -/
def tinfo (P : Program) (t : TypeId) : Option (Option Value × Nat × Nat) := (P.info? t).map fun i => (i.zero, i.size, i.bytes)

class TInfo (P : Program) (t : TypeId) (z : outParam (Option Value)) (sz bs : outParam Nat) : Prop where
  out : tinfo P t = some (z, sz, bs)

def scalarB (P : Program) (t : TypeId) : Bool :=
  match P.underlying t with
  | some (.struct _) | some (.array _ _) | none => false
  | _ => true

def aggB (P : Program) (t : TypeId) : Bool :=
  match P.underlying t with
  | some (.struct _) | some (.array _ _) => true
  | _ => false

def fieldOff (P : Program) (s f : Nat) : Option Nat :=
  match P.underlying s with
  | some (.struct fs) =>
    match fs[f]? with
    | some fl => if ((P.info? fl.type).map fun i => i.size != 0).getD false then some fl.offset else none
    | none => none
  | _ => none

/-- The elements of a slice type: their type, their cells. -/
def sliceElem (P : Program) (t : TypeId) : Option (TypeId × Nat) :=
  match P.underlying t with
  | some (.slice e) => (P.info? e).map fun i => (e, i.size)
  | _ => none

class Scalar (P : Program) (t : TypeId) : Prop where
  out : scalarB P t = true
class AggT (P : Program) (t : TypeId) : Prop where
  out : aggB P t = true
class FieldOff (P : Program) (s f : Nat) (off : outParam Nat) : Prop where
  out : fieldOff P s f = some off
def fieldTy (P : Program) (s f : Nat) : Option Nat :=
  match P.underlying s with
  | some (.struct fs) => (fs[f]?).map (·.type)
  | _ => none
class FieldTy (P : Program) (s f : Nat) (u : outParam Nat) : Prop where
  out : fieldTy P s f = some u
class SliceT (P : Program) (t : TypeId) (e sz : outParam Nat) : Prop where
  out : sliceElem P t = some (e, sz)
class Under (P : Program) (t : TypeId) (d : outParam TypeDesc) : Prop where
  out : P.underlying t = some d
class Enter (P : Program) (f : FuncId) : Prop where
  out : enterB P f = true

section
variable {P : Program} {w : World} {ρ : Operand → Value} {ty : TypeId} {x y i : Operand} {v : Value} {t s : TypeId} {k : IntKind}

theorem run_typeInfo {i : TypeInfo} (h : P.info? t = some i) : (typeInfo t).run P w = .ok i w := by
  simp [typeInfo, h]
theorem run_underlying {d : TypeDesc} (h : P.underlying t = some d) : (underlying t).run P w = .ok d w := by
  simp [underlying, h]

theorem tinfo_some {z : Option Value} {sz bs : Nat} (h : tinfo P t = some (z, sz, bs)) : ∃ i, P.info? t = some i ∧ i.zero = z ∧ i.size = sz ∧ i.bytes = bs := by
  unfold tinfo at h
  cases hi : P.info? t with
  | none => simp [hi] at h
  | some i => simp [hi] at h; exact ⟨i, rfl, h.1, h.2.1, h.2.2⟩

theorem run_isAgg_scalar (h : scalarB P t = true) : (isAgg t).run P w = .ok false w := by
  unfold scalarB at h
  cases hu : P.underlying t with
  | none => simp [hu] at h
  | some d =>
    cases d <;> simp [hu] at h <;> simp [isAgg, underlying, hu]

theorem run_isAgg_agg (h : aggB P t = true) : (isAgg t).run P w = .ok true w := by
  unfold aggB at h
  cases hu : P.underlying t with
  | none => simp [hu] at h
  | some d => cases d <;> simp [hu] at h <;> simp [isAgg, underlying, hu]

theorem y_move (h : ρ x = v) : Yld P ρ (.move x) ty w v := by
  constructor; intro _ _ _ _
  simp [execOp, h]
theorem y_assign (h : ρ x = v) : Yld P ρ (.assign x) ty w v := by
  constructor; intro _ _ _ _
  simp [execOp, h]
theorem y_pick_t {c : Operand} (hc : ρ c = .bool true) (h : ρ x = v) : Yld P ρ (.pick c x y) ty w v := by
  constructor; intro _ _ _ _
  simp [execOp, hc, h, asBool]
theorem y_pick_f {c : Operand} (hc : ρ c = .bool false) (h : ρ y = v) : Yld P ρ (.pick c x y) ty w v := by
  constructor; intro _ _ _ _
  simp [execOp, hc, h, asBool]
theorem y_nil {a : Addr} (h : ρ x = .pointer (some a)) : Yld P ρ (.nilCheck x) ty w (.pointer (some a)) := by
  constructor; intro _ _ _ _
  simp [execOp, h]
theorem y_nilf {f : FuncId} {a b : Array Value} (h : ρ x = .func (.func f) a b) : Yld P ρ (.nilCheck x) ty w (.func (.func f) a b) := by
  constructor; intro _ _ _ _
  simp [execOp, h]

theorem y_field {f b o off : Nat} [hF' : FieldOff P s f off] (hx : ρ x = .pointer (some ⟨b, o, none⟩)) : Yld P ρ (.fieldAddr s x f) ty w (.pointer (some ⟨b, o + off, none⟩)) := by
  constructor; intro _ _ _ _
  have hF := hF'.out
  unfold fieldOff at hF
  split at hF
  · rename_i fs hu
    split at hF
    · rename_i fl hf
      split at hF
      · rename_i hz
        obtain rfl := Option.some.inj hF
        cases hi : P.info? fl.type with
        | none => simp [hi] at hz
        | some inf =>
          have hz : inf.size ≠ 0 := by simpa [hi] using hz
          by_cases h0 : fl.offset = 0
          · simp [execOp, Instr.fieldAt, underlying, hu, hf, Instr.sureAddr, hx, fieldPlace, Go.sizeOf, typeInfo, hi, hz, Addr.add, h0]
          · simp [execOp, Instr.fieldAt, underlying, hu, hf, Instr.sureAddr, hx, fieldPlace, Go.sizeOf, typeInfo, hi, hz, Addr.add, h0]
      · cases hF
    · cases hF
  · cases hF

theorem y_load {a : Addr} [ht : Scalar P t] (hx : ρ x = .pointer (some a)) (hc : w.cell? a = some v) : Yld P ρ (.load t x) ty w v := by
  constructor; intro _ _ _ _
  simp [execOp, Instr.loadAt, Instr.sureAddr, hx, loadVar, run_isAgg_scalar ht.out, hc]

theorem y_ld {W0 : World} {L : List (Nat × MObj)} {b o : Nat} {cs : List Value} {e : TypeId} (hs : St W0 w L) [Scalar P t]
    (hx : ρ x = .pointer (some ⟨b, o, none⟩)) [hi : InL b (.cells cs e) L] (hc : cs[o]? = some v) : Yld P ρ (.load t x) ty w v :=
  y_load hx (by rw [hs.cell hi.mem]; exact hc)

theorem run_loadCellsFrom {b o : Nat} {cs : List Value} (hc : ∀ i, w.cell? ⟨b, i, none⟩ = cs[i]?) : ∀ (n i : Nat) (acc : Array Value), o + i + n ≤ cs.length →
    (loadCellsFrom ⟨b, o, none⟩ i n acc).run P w = .ok (acc ++ ((cs.drop (o + i)).take n).toArray) w := by
  intro n
  induction n with
  | zero => intro i acc _; simp [loadCellsFrom]
  | succ n ih =>
    intro i acc h
    have ha : (⟨b, o, none⟩ : Addr).add i = ⟨b, o + i, none⟩ := by unfold Addr.add; split <;> simp_all
    have hlt : o + i < cs.length := by omega
    simp only [loadCellsFrom, Sem.run_bind, run_load, ha, hc, List.getElem?_eq_getElem hlt, Result.andThen_ok]
    rw [ih (i + 1) _ (by omega)]
    congr 1
    rw [List.drop_eq_getElem_cons hlt, List.take_succ_cons]
    apply Array.ext'
    simp [Nat.add_assoc]

theorem run_loadCells {b o n : Nat} {cs : List Value} (hc : ∀ i, w.cell? ⟨b, i, none⟩ = cs[i]?) (h : o + n ≤ cs.length) :
    (loadCells ⟨b, o, none⟩ n).run P w = .ok ((cs.drop o).take n).toArray w := by
  unfold loadCells
  rw [run_loadCellsFrom hc n 0 #[] (by omega)]
  simp

theorem y_ldA {W0 : World} {L : List (Nat × MObj)} {b o sz : Nat} {cs vs : List Value} {e : TypeId} {z : Option Value} {bs : Nat} (hs : St W0 w L) [ht : AggT P t] [hz : TInfo P t z sz bs]
    (hx : ρ x = .pointer (some ⟨b, o, none⟩)) [hi : InL b (.cells cs e) L] (hl : Nat.ble (o + sz) cs.length = true) (hv : (cs.drop o).take sz = vs) :
    Yld P ρ (.load t x) ty w (.agg vs.toArray) := by
  constructor; intro _ _ _ _
  obtain ⟨inf, h1, _, h3, _⟩ := tinfo_some hz.out
  subst hv
  simp [execOp, Instr.loadAt, Instr.sureAddr, hx, loadVar, run_isAgg_agg ht.out, Go.sizeOf, typeInfo, h1, h3, run_loadCells (w := w) (P := P) (fun i => hs.cell (off := i) hi.mem) (Nat.le_of_ble_eq_true hl)]

theorem y_len_slice {a : Option Addr} {n c e : Nat} [hu : Under P t (.slice e)] (hx : ρ x = .slice a n c) :
    Yld P ρ (.call ⟨.builtin .len, #[x], #[t]⟩) ty w (.int .i64 n) := by
  constructor; intro _ _ _ _
 
  simp [execOp, resolve, invoke, builtin, Builtin.len_, underlying, hu.out, hx, goInt]

theorem y_len_str {s : ByteArray} [hu : Under P t .string] (hx : ρ x = .string s) :
    Yld P ρ (.call ⟨.builtin .len, #[x], #[t]⟩) ty w (.int .i64 s.size) := by
  constructor; intro _ _ _ _
 
  simp [execOp, resolve, invoke, builtin, Builtin.len_, underlying, hu.out, hx, goInt]

theorem y_index {b o n c e sz : Nat} {j : Int} [he' : SliceT P t e sz] (hx : ρ x = .slice (some ⟨b, o, none⟩) n c) (hi : ρ i = .int k j) (h0 : 0 ≤ j) (h1 : j < n) :
    Yld P ρ (.indexAddr t x i) ty w (.pointer (some ⟨b, o + j.toNat * sz, none⟩)) := by
  constructor; intro _ _ _ _
 
  have he := he'.out
  unfold sliceElem at he
  split at he
  · rename_i e' hu
    cases hinf : P.info? e' with
    | none => simp [hinf] at he
    | some inf =>
      simp only [hinf, Option.map_some, Option.some.injEq, Prod.mk.injEq] at he
      obtain ⟨rfl, rfl⟩ := he
      have ha : ∀ m, (⟨b, o, none⟩ : Addr).add m = ⟨b, o + m, none⟩ := by intro m; unfold Addr.add; split <;> simp_all
      simp [execOp, Instr.indexAt, asIntOf, underlying, hu, hx, hi, h0, h1, Go.sizeOf, typeInfo, hinf, ha]
  · cases he

theorem y_idx_str {s : ByteArray} {j : Int} [hu : Under P t .string] (hx : ρ x = .string s) (hi : ρ i = .int k j) (h0 : 0 ≤ j) (h1 : j.toNat < s.size) :
    Yld P ρ (.index t x i) ty w (.int .u8 (s[j.toNat]'h1).toNat) := by
  constructor; intro _ _ _ _
 
  simp [execOp, Instr.index, asIntOf, underlying, hu.out, hx, hi, h0, h1]

theorem y_add {a c : Int} (hx : ρ x = .int k a) (hy : ρ y = .int k c) (hv : v = .int k (k.wrap (a + c))) : Yld P ρ (.binOp .add t x y s) ty w v := by
  constructor; intro _ _ _ _
 
  subst hv; simp [execOp, eqGuard, binOp, hx, hy, Op.intArith]
theorem y_sub {a c : Int} (hx : ρ x = .int k a) (hy : ρ y = .int k c) (hv : v = .int k (k.wrap (a - c))) : Yld P ρ (.binOp .sub t x y s) ty w v := by
  constructor; intro _ _ _ _
 
  subst hv; simp [execOp, eqGuard, binOp, hx, hy, Op.intArith]
theorem y_mul {a c : Int} (hx : ρ x = .int k a) (hy : ρ y = .int k c) (hv : v = .int k (k.wrap (a * c))) : Yld P ρ (.binOp .mul t x y s) ty w v := by
  constructor; intro _ _ _ _
 
  subst hv; simp [execOp, eqGuard, binOp, hx, hy, Op.intArith]
theorem y_quo {a c : Int} (hx : ρ x = .int k a) (hy : ρ y = .int k c) (h : c ≠ 0) (hv : v = .int k (k.wrap (a.tdiv c))) : Yld P ρ (.binOp .quo t x y s) ty w v := by
  constructor; intro _ _ _ _
 
  subst hv; simp [execOp, eqGuard, binOp, hx, hy, Op.intDiv, h]
theorem y_rem {a c : Int} (hx : ρ x = .int k a) (hy : ρ y = .int k c) (h : c ≠ 0) (hv : v = .int k (a.tmod c)) : Yld P ρ (.binOp .rem t x y s) ty w v := by
  constructor; intro _ _ _ _
 
  subst hv; simp [execOp, eqGuard, binOp, hx, hy, Op.intDiv, h]

/-- Comparisons of whole numbers: the outcome is given as a Bool. -/
theorem y_eql {a c : Int} {r : Bool} (hx : ρ x = .int k a) (hy : ρ y = .int k c) (h : decide (a = c) = r) : Yld P ρ (.binOp .eql t x y s) ty w (.bool r) := by
  constructor; intro _ _ _ _
 
  subst h; simp [execOp, eqGuard, binOp, hx, hy, Op.intCmp]; rfl
theorem y_neq {a c : Int} {r : Bool} (hx : ρ x = .int k a) (hy : ρ y = .int k c) (h : decide (a ≠ c) = r) : Yld P ρ (.binOp .neq t x y s) ty w (.bool r) := by
  constructor; intro _ _ _ _
 
  subst h; simp [execOp, eqGuard, binOp, hx, hy, Op.intCmp]; rfl
theorem y_lss {a c : Int} {r : Bool} (hx : ρ x = .int k a) (hy : ρ y = .int k c) (h : decide (a < c) = r) : Yld P ρ (.binOp .lss t x y s) ty w (.bool r) := by
  constructor; intro _ _ _ _
 
  subst h; simp [execOp, eqGuard, binOp, hx, hy, Op.intCmp]
theorem y_leq {a c : Int} {r : Bool} (hx : ρ x = .int k a) (hy : ρ y = .int k c) (h : decide (a ≤ c) = r) : Yld P ρ (.binOp .leq t x y s) ty w (.bool r) := by
  constructor; intro _ _ _ _
 
  subst h; simp [execOp, eqGuard, binOp, hx, hy, Op.intCmp]
theorem y_gtr {a c : Int} {r : Bool} (hx : ρ x = .int k a) (hy : ρ y = .int k c) (h : decide (c < a) = r) : Yld P ρ (.binOp .gtr t x y s) ty w (.bool r) := by
  constructor; intro _ _ _ _
 
  subst h; simp [execOp, eqGuard, binOp, hx, hy, Op.intCmp]
theorem y_geq {a c : Int} {r : Bool} (hx : ρ x = .int k a) (hy : ρ y = .int k c) (h : decide (c ≤ a) = r) : Yld P ρ (.binOp .geq t x y s) ty w (.bool r) := by
  constructor; intro _ _ _ _
 
  subst h; simp [execOp, eqGuard, binOp, hx, hy, Op.intCmp]
theorem y_not {c r : Bool} (hx : ρ x = .bool c) (h : (!c) = r) : Yld P ρ (.unOp .not t x) ty w (.bool r) := by
  constructor; intro _ _ _ _
 
  subst h; simp [execOp, Op.unary, hx]

theorem y_extract {vs : List Value} {j : Nat} (hx : ρ x = .tuple vs.toArray) (h : vs[j]? = some v) : Yld P ρ (.extract x j) ty w v := by
  constructor; intro _ _ _ _
 
  simp [execOp, Instr.extract, hx, h]

theorem y_min {a c : Int} {tt : Array TypeId} (hx : ρ x = .int k a) (hy : ρ y = .int k c) (hv : v = .int k (if c < a then c else a)) : Yld P ρ (.call ⟨.builtin .min, #[x, y], tt⟩) ty w v := by
  constructor; intro _ _ _ _
 
  subst hv; simp [execOp, resolve, invoke, builtin, Builtin.min_, hx, hy, Builtin.min2]
theorem y_max {a c : Int} {tt : Array TypeId} (hx : ρ x = .int k a) (hy : ρ y = .int k c) (hv : v = .int k (if a < c then c else a)) : Yld P ρ (.call ⟨.builtin .max, #[x, y], tt⟩) ty w v := by
  constructor; intro _ _ _ _
 
  subst hv; simp [execOp, resolve, invoke, builtin, Builtin.max_, hx, hy, Builtin.max2]
/-! ### Copies, by the value's form (so that the value comes out written) -/
theorem y_mv_int {a : Int} (h : ρ x = .int k a) : Yld P ρ (.move x) ty w (.int k a) := y_move h
theorem y_mv_ptr {a : Option Addr} (h : ρ x = .pointer a) : Yld P ρ (.move x) ty w (.pointer a) := y_move h
theorem y_mv_slice {a : Option Addr} {n c : Nat} (h : ρ x = .slice a n c) : Yld P ρ (.move x) ty w (.slice a n c) := y_move h
theorem y_mv_bool {a : Bool} (h : ρ x = .bool a) : Yld P ρ (.move x) ty w (.bool a) := y_move h
theorem y_mv_str {a : ByteArray} (h : ρ x = .string a) : Yld P ρ (.move x) ty w (.string a) := y_move h
theorem y_mv_agg {a : Array Value} (h : ρ x = .agg a) : Yld P ρ (.move x) ty w (.agg a) := y_move h
theorem y_mv_tuple {a : Array Value} (h : ρ x = .tuple a) : Yld P ρ (.move x) ty w (.tuple a) := y_move h
theorem y_mv_func {f : Fn} {a b : Array Value} (h : ρ x = .func f a b) : Yld P ρ (.move x) ty w (.func f a b) := y_move h
theorem y_mv_map {a : Option Nat} (h : ρ x = .map a) : Yld P ρ (.move x) ty w (.map a) := y_move h
theorem y_mv_if {t : TypeId} {a : Value} (h : ρ x = .iface t a) : Yld P ρ (.move x) ty w (.iface t a) := y_move h
theorem y_mv_nif (h : ρ x = .nilIface) : Yld P ρ (.move x) ty w .nilIface := y_move h
theorem y_as_int {a : Int} (h : ρ x = .int k a) : Yld P ρ (.assign x) ty w (.int k a) := y_assign h
theorem y_as_ptr {a : Option Addr} (h : ρ x = .pointer a) : Yld P ρ (.assign x) ty w (.pointer a) := y_assign h
theorem y_as_slice {a : Option Addr} {n c : Nat} (h : ρ x = .slice a n c) : Yld P ρ (.assign x) ty w (.slice a n c) := y_assign h
theorem y_as_bool {a : Bool} (h : ρ x = .bool a) : Yld P ρ (.assign x) ty w (.bool a) := y_assign h
theorem y_as_str {a : ByteArray} (h : ρ x = .string a) : Yld P ρ (.assign x) ty w (.string a) := y_assign h
theorem y_as_agg {a : Array Value} (h : ρ x = .agg a) : Yld P ρ (.assign x) ty w (.agg a) := y_assign h
theorem y_as_tuple {a : Array Value} (h : ρ x = .tuple a) : Yld P ρ (.assign x) ty w (.tuple a) := y_assign h
theorem y_as_func {f : Fn} {a b : Array Value} (h : ρ x = .func f a b) : Yld P ρ (.assign x) ty w (.func f a b) := y_assign h
theorem y_as_map {a : Option Nat} (h : ρ x = .map a) : Yld P ρ (.assign x) ty w (.map a) := y_assign h
theorem y_as_if {t : TypeId} {a : Value} (h : ρ x = .iface t a) : Yld P ρ (.assign x) ty w (.iface t a) := y_assign h
theorem y_as_nif (h : ρ x = .nilIface) : Yld P ρ (.assign x) ty w .nilIface := y_assign h
theorem y_pk_bt {c : Operand} {b : Bool} (hc : ρ c = .bool true) (h : ρ x = .bool b) : Yld P ρ (.pick c x y) ty w (.bool b) := y_pick_t hc h
theorem y_pk_bf {c : Operand} {b : Bool} (hc : ρ c = .bool false) (h : ρ y = .bool b) : Yld P ρ (.pick c x y) ty w (.bool b) := y_pick_f hc h

theorem wrap_i64 {a : Int} (h : -9223372036854775808 ≤ a ∧ a ≤ 9223372036854775807) : IntKind.i64.wrap a = a := by
  exact IntWalk.i64_in a h

theorem y_addn {a c : Int} (hx : ρ x = .int .i64 a) (hy : ρ y = .int .i64 c) (h : -9223372036854775808 ≤ a + c ∧ a + c ≤ 9223372036854775807) : Yld P ρ (.binOp .add t x y s) ty w (.int .i64 (a + c)) :=
  y_add hx hy (by rw [wrap_i64 h])
theorem y_subn {a c : Int} (hx : ρ x = .int .i64 a) (hy : ρ y = .int .i64 c) (h : -9223372036854775808 ≤ a - c ∧ a - c ≤ 9223372036854775807) : Yld P ρ (.binOp .sub t x y s) ty w (.int .i64 (a - c)) :=
  y_sub hx hy (by rw [wrap_i64 h])
theorem y_muln {a c : Int} (hx : ρ x = .int .i64 a) (hy : ρ y = .int .i64 c) (h : -9223372036854775808 ≤ a * c ∧ a * c ≤ 9223372036854775807) : Yld P ρ (.binOp .mul t x y s) ty w (.int .i64 (a * c)) :=
  y_mul hx hy (by rw [wrap_i64 h])
theorem y_not_t (hx : ρ x = .bool true) : Yld P ρ (.unOp .not t x) ty w (.bool false) := y_not hx rfl
theorem y_not_f (hx : ρ x = .bool false) : Yld P ρ (.unOp .not t x) ty w (.bool true) := y_not hx rfl
theorem y_quon {a c : Int} (hx : ρ x = .int .i64 a) (hy : ρ y = .int .i64 c) (h : 0 ≤ a ∧ a ≤ 9223372036854775807 ∧ 1 ≤ c) : Yld P ρ (.binOp .quo t x y s) ty w (.int .i64 (a / c)) :=
  y_quo hx hy (by omega) (by
    rw [Int.tdiv_eq_ediv_of_nonneg h.1]
    have h1 : 0 ≤ a / c := Int.ediv_nonneg h.1 (by omega)
    have h2 : a / c ≤ a := Int.ediv_le_self _ h.1
    rw [wrap_i64 (by omega)])
theorem y_remn {a c : Int} (hx : ρ x = .int .i64 a) (hy : ρ y = .int .i64 c) (h : 0 ≤ a ∧ 1 ≤ c) : Yld P ρ (.binOp .rem t x y s) ty w (.int .i64 (a % c)) :=
  y_rem hx hy (by omega) (by rw [Int.tmod_eq_emod_of_nonneg h.1])
theorem y_notd {p : Prop} [Decidable p] (hx : ρ x = .bool (decide p)) : Yld P ρ (.unOp .not t x) ty w (.bool (decide (¬ p))) :=
  y_not hx (by simp)

/-- Part of an aggregate by value. -/
theorem y_fieldV {f o : Nat} {vs : List Value} [hF' : FieldOff P s f o] {u : TypeId} [hu : FieldTy P s f u] [hs : Scalar P u] (hx : ρ x = .agg vs.toArray) (hv : vs[o]? = some v) :
    Yld P ρ (.field s x f) ty w v := by
  constructor; intro _ _ _ _
  have hF := hF'.out
  have hT := hu.out
  unfold fieldOff at hF
  unfold fieldTy at hT
  split at hF
  · rename_i fs hfs
    simp only [hfs] at hT
    split at hF
    · rename_i fl hf
      simp only [hf, Option.map_some, Option.some.injEq] at hT
      subst hT
      split at hF
      · obtain rfl := Option.some.inj hF
        simp [execOp, Instr.field, underlying, hfs, hf, hx, asAgg, part, run_isAgg_scalar hs.out, hv]
      · cases hF
    · cases hF
  · cases hF
end
end PB

/-! ## Control -/
namespace PB
open Go Go.RowKit

def Agrees (Γ : Fr) (ρ : Nat → Value) : Fr → Prop
  | [] => True
  | (k, v) :: r => look Γ ρ k = v ∧ Agrees Γ ρ r

theorem Agrees.all {Γ : Fr} {ρ : Nat → Value} : ∀ {Γ' : Fr}, Agrees Γ ρ Γ' → ∀ p ∈ Γ', look Γ ρ p.1 = p.2
  | [], _, _, hp => by cases hp
  | _ :: _, h, p, hp => by
    rcases List.mem_cons.1 hp with rfl | hp
    · exact h.1
    · exact Agrees.all h.2 p hp

/-- A call that returns. -/
def Ret (Φ : Value → World → Prop) : Ending → World → Prop := fun e w => ∃ v, e = .returned v ∧ Φ v w

/-- A contract. (A structure: two that do not fit are never laid open.) -/
structure FnC (P : Program) (f : FuncId) (args : List Value) (w : World) (Φ : Value → World → Prop) : Prop where
  c : Calls P f args.toArray w (Ret Φ)

theorem Ret.mono {P : Program} {f : FuncId} {args : Array Value} {w : World} {Φ Ψ : Value → World → Prop} (h : Calls P f args w (Ret Φ)) (hk : ∀ v w', Φ v w' → Ψ v w') : Calls P f args w (Ret Ψ) :=
  h.mono fun _ w' ⟨v, he, hv⟩ => ⟨v, he, hk v w' hv⟩

theorem FnC.mono {P : Program} {f : FuncId} {args : List Value} {w : World} {Φ Ψ : Value → World → Prop} (h : FnC P f args w Φ) (hk : ∀ v w', Φ v w' → Ψ v w') : FnC P f args w Ψ :=
  ⟨Ret.mono h.c hk⟩

theorem FnC.enter {P : Program} {f : FuncId} {fn : Func} {c : Code} {w : World} {Φ : Value → World → Prop} {n : Nat} {l : List Value}
    (hf : P.funcs[f]? = some fn) (hb : fn.body = some c) (hn : fn.ntmps = n) (hs : Nat.ble l.length n = true)
    (h : ∀ ρ, CW P c (bodyPost P fn (Ret Φ)) (act n (enumFrom 0 l) ρ []) w) : FnC P f l w Φ := ⟨PB.enter hf hb hn rfl hs fun ρ => (h ρ).out⟩

section
variable {P : Program} {Q : Exit → Act → World → Prop} {K : Act → World → Prop} {n : Nat} {Γ Γ' : Fr} {ρ : Nat → Value} {ds : List Deferred} {w : World} {ops : Array Oper}

/-- Forget slots. -/
theorem keep (Γ' : Fr) {G : Act → Prop} (h : Agrees Γ ρ Γ') (hg : ∀ ρ', G (act n Γ' ρ' ds)) : G (act n Γ ρ ds) := act_weaken h.all hg

theorem l_end {l : List Oper} {a : Act} (h : Q .normal a w) : WL P l Q [] a w := ⟨h⟩
theorem c_end {l : List Oper} {S : World → Prop} {z : Nat} {a : Act} (h : Q .normal a w) : WC P l Q S z .nil a w := ⟨h⟩

theorem s_seq {x y : Code} {a : Act} (h : CW P x (Exit.then (CW P y Q) Q) a w) : CW P (Code.seq x y) Q a w :=
  ⟨wp_seq (wp_mono h.out fun e a w hq => by cases e <;> first | exact hq.out | exact hq)⟩
theorem s_skip {a : Act} (h : Q .normal a w) : CW P Code.skip Q a w := ⟨wp_skip h⟩
theorem s_ret {a : Act} (h : Q .ret a w) : CW P Code.ret Q a w := ⟨wp_ret h⟩
theorem s_exit {a : Act} {i : Nat} (h : Q (.exit i) a w) : CW P (Code.exit i) Q a w := ⟨wp_exit h⟩
theorem s_block {a : Act} {i : Nat} {c : Code} (h : CW P c (Exit.inBlock i Q) a w) : CW P (Code.block i c) Q a w := ⟨wp_block h.out⟩
theorem s_reg {a : Act} {i : Nat} {l : List Oper} (h : WL P l Q l a w) : CW P (Code.region i l.toArray false) Q a w := ⟨wp_region_lit h.out⟩

theorem cond_t {c : Operand} {x y : Code} (hc : ev n Γ ρ c = .bool true) (h : CW P x Q (act n Γ ρ ds) w) : CW P (Code.cond c x y) Q (act n Γ ρ ds) w :=
  ⟨wp_cond_true (by rw [eval_act]; exact hc) h.out⟩
theorem cond_f {c : Operand} {x y : Code} (hc : ev n Γ ρ c = .bool false) (h : CW P y Q (act n Γ ρ ds) w) : CW P (Code.cond c x y) Q (act n Γ ρ ds) w :=
  ⟨wp_cond_false (by rw [eval_act]; exact hc) h.out⟩
theorem cond_b {c : Operand} {x y : Code} {b : Bool} (hc : ev n Γ ρ c = .bool b) (h1 : b = true → CW P x Q (act n Γ ρ ds) w) (h2 : b = false → CW P y Q (act n Γ ρ ds) w) :
    CW P (Code.cond c x y) Q (act n Γ ρ ds) w := by
  cases b
  · exact cond_f hc (h2 rfl)
  · exact cond_t hc (h1 rfl)
theorem cond_d {c : Operand} {x y : Code} {p : Prop} [Decidable p] (hc : ev n Γ ρ c = .bool (decide p)) (h1 : p → CW P x Q (act n Γ ρ ds) w) (h2 : ¬ p → CW P y Q (act n Γ ρ ds) w) :
    CW P (Code.cond c x y) Q (act n Γ ρ ds) w := cond_b hc (fun h => h1 (of_decide_eq_true h)) (fun h => h2 (of_decide_eq_false h))

theorem e_then {a : Act} (h : K a w) : Exit.then K Q .normal a w := h
theorem e_then_x {a : Act} {i : Nat} (h : Q (.exit i) a w) : Exit.then K Q (.exit i) a w := h
theorem e_then_r {a : Act} (h : Q .ret a w) : Exit.then K Q .ret a w := h
theorem e_blk {a : Act} {i : Nat} (h : Q .normal a w) : Exit.inBlock i Q .normal a w := h
theorem e_blk_r {a : Act} {i : Nat} (h : Q .ret a w) : Exit.inBlock i Q .ret a w := h
theorem e_blk_x {a : Act} {i : Nat} (h : Q .normal a w) : Exit.inBlock i Q (.exit i) a w := by simpa [Exit.inBlock] using h
theorem e_blk_y {a : Act} {i j : Nat} (hij : Nat.beq j i = false) (h : Q (.exit j) a w) : Exit.inBlock i Q (.exit j) a w := by
  have : j ≠ i := fun e => by subst e; simp at hij
  simpa [Exit.inBlock, this] using h

/-- A call that only computes, taken first. -/
theorem c_qc {l : List Oper} {rest : Sch} {S : World → Prop} {z i d : Nat} {v : Value} {ty : TypeId} {pos : String} {after : Array Edge} {f : FuncId} {cap : Array Value} {fop : Operand} {args : Array Operand} {tys : Array TypeId} {vs : List Value} (hi : opAt l i = some ⟨some d, .call ⟨.value fop, args, tys⟩, ty, pos, after, none⟩) (hS : S w)
    (hQ : ∀ c a w, Q (.panic c) (a.put (some d) v) w → Q (.panic c) a w) (hf : ev n Γ ρ fop = .func (.func f) #[] cap) [he : Enter P f]
    (hc : ∀ w, S w → FnC P f vs w (fun u w' => u = v ∧ w' = w)) (ha : args.toList.map (ev n Γ ρ) ++ cap.toList = vs)
    (hk : WC P l Q S z rest (act n ((d, v) :: Γ) ρ ds) w) : WC P l Q S z (.q i rest) (act n Γ ρ ds) w := by
  refine ⟨hS, _, v, (opAt_eq l i).trans hi, .inl ⟨rfl, fun w hw => .inr ⟨f, vs.toArray, ?_, (hc w hw).c.mono fun e w' ⟨u, h1, h2, h3⟩ => ⟨by rw [h1, h2], h3⟩⟩⟩, hQ, ?_⟩
  · rw [eval_act]; exact run_call hf he.out ha
  · rw [put_act]; exact hk.out

/-- Ways that meet again: what holds there. -/
theorem cut {Y : Type} (G : Y → Fr) (I : Y → World → Prop) {x y : Code} (h : ∀ K : Act → World → Prop, (∀ u ρ w, I u w → K (act n (G u) ρ ds) w) → CW P x (Exit.then K Q) (act n Γ ρ ds) w)
    (hk : ∀ u ρ w, I u w → CW P y Q (act n (G u) ρ ds) w) : CW P (Code.seq x y) Q (act n Γ ρ ds) w := s_seq (h (CW P y Q) hk)
theorem meet {Y : Type} {G : Y → Fr} {I : Y → World → Prop} {K : Act → World → Prop} (hK : ∀ u ρ w, I u w → K (act n (G u) ρ ds) w) (u : Y) (ha : Agrees Γ ρ (G u)) (hI : I u w) : K (act n Γ ρ ds) w :=
  keep (G := fun a => K a w) (G u) ha (fun ρ => hK u ρ w hI)

theorem loop_st {X : Type} {c : Code} (G : X → Fr) (I : X → World → Prop) (μ : X → Nat) (x0 : X) (h0 : Agrees Γ ρ (G x0)) (hI : I x0 w)
    (round : ∀ x ρ w, I x w → CW P c (Exit.then (fun a' w' => ∃ x' ρ', a' = act n (G x') ρ' ds ∧ I x' w' ∧ μ x' < μ x) Q) (act n (G x) ρ ds) w) :
    CW P (Code.loop c) Q (act n Γ ρ ds) w := by
  rw [act_shrink h0.all]
  have key : ∀ m x ρ w, μ x = m → I x w → ∀ b k cs, ∃ e a' w', Q e a' w' ∧ Arrives P (lone (b.at (act n (G x) ρ ds) (.code c :: .inLoop c :: k)) cs w) b k cs e a' w' := by
    intro m
    induction m using Nat.strongRecOn with
    | _ m ih =>
      intro x ρ w hm hx b k cs
      obtain ⟨e, a₁, w₁, hq, harr⟩ := (round x ρ w hx).out b (.inLoop c :: k) cs
      cases e with
      | normal =>
        obtain ⟨x', ρ', ha, hx', hlt⟩ := hq
        subst ha
        obtain ⟨e₂, a₂, w₂, hq₂, harr₂⟩ := ih (μ x') (hm ▸ hlt) x' ρ' w₁ rfl hx' b k cs
        exact ⟨e₂, a₂, w₂, hq₂, .of_steps (Steps.trans harr (.one step_inLoop)) harr₂⟩
      | exit id => exact ⟨_, a₁, w₁, hq, .pass (x := .inLoop c) rfl (fun _ _ => .inl (by simp)) harr⟩
      | goto l => exact ⟨_, a₁, w₁, hq, .pass (x := .inLoop c) rfl (fun _ _ => .inl (by simp)) harr⟩
      | ret => exact ⟨_, a₁, w₁, hq, .pass (x := .inLoop c) rfl (fun _ _ => .inl (by simp)) harr⟩
      | panic ch => exact ⟨_, a₁, w₁, hq, .pass (x := .inLoop c) rfl (fun _ _ => .inl (by simp)) harr⟩
      | outgrown => exact ⟨_, a₁, w₁, hq, .pass (x := .inLoop c) rfl (fun _ _ => .inl (by simp)) harr⟩
  constructor
  intro b k cs
  obtain ⟨e, a', w', hq, harr⟩ := key _ x0 _ w rfl hI b k cs
  exact ⟨e, a', w', hq, .of_steps (.one step_loop) harr⟩

theorem nx (h : Agrees Γ ρ Γ') : act n Γ ρ ds = act n Γ' (look Γ ρ) ds := act_shrink h.all

theorem loop_next {X : Type} {G : X → Fr} {I : X → World → Prop} {μ : X → Nat} {m : Nat} (x' : X) (h : Agrees Γ ρ (G x')) (hI : I x' w) (hm : μ x' < m) :
    ∃ x' ρ', act n Γ ρ ds = act n (G x') ρ' ds ∧ I x' w ∧ μ x' < m := ⟨x', _, act_shrink h.all, hI, hm⟩

theorem r_dr {l : List Oper} {id : Nat} {a : Act} {W0 : World} {L : List (Nat × MObj)} (order : Sch) (z : Nat) (hs : St W0 w L) (hm : P.follows .mixedOrders = true) (hB : canB l.toArray z order = true)
    (h : St W0 w.drew L → WC P l Q (fun w => St W0 w L) z order a w.drew) : CW P (Code.region id l.toArray true) Q a w := r_draw order z _ hm hB (h hs.drew)

/-! ### The end -/
def resOk (P : Program) (w : World) (ρ : Operand → Value) : List ResultVar → List Value → Prop
  | [], [] => True
  | .tmp t :: r, v :: vs => ρ (.tmp t) = v ∧ resOk P w ρ r vs
  | .cell a t :: r, v :: vs => (∃ x, ρ (.tmp a) = .pointer (some x) ∧ (loadVar t x).run P w = .ok v w) ∧ resOk P w ρ r vs
  | _, _ => False

def oneOf : List Value → Value
  | [v] => v
  | vs => .tuple vs.toArray

theorem run_results (f : ResultVar → Sem Value) : ∀ (rs : List ResultVar) (vs : List Value), rs.length = vs.length → (∀ (i : Nat) (r : ResultVar) (v : Value), rs[i]? = some r → vs[i]? = some v → (f r).run P w = .ok v w) →
    (rs.mapM f).run P w = .ok vs w := by
  intro rs
  induction rs with
  | nil => intro vs hl _; cases vs <;> simp at hl ⊢
  | cons r rs ih =>
    intro vs hl h
    cases vs with
    | nil => simp at hl
    | cons v vs =>
      have h0 := h 0 r v rfl rfl
      have ih' := ih vs (by simpa using hl) (fun i r v hr hv => h (i + 1) r v (by simpa using hr) (by simpa using hv))
      simp [List.mapM_cons, h0, ih']

theorem resOk_at {ρ : Operand → Value} : ∀ {rs : List ResultVar} {vs : List Value}, resOk P w ρ rs vs → rs.length = vs.length ∧
    ∀ (i : Nat) (r : ResultVar) (v : Value), rs[i]? = some r → vs[i]? = some v → match r with | .tmp t => ρ (.tmp t) = v | .cell a t => ∃ x, ρ (.tmp a) = .pointer (some x) ∧ (loadVar t x).run P w = .ok v w
  | [], [], _ => ⟨rfl, fun i r v hr _ => by simp at hr⟩
  | .tmp t :: rs, v :: vs, h => by
    have := resOk_at h.2
    refine ⟨by simp [this.1], fun i r u hr hu => ?_⟩
    cases i with
    | zero => simp at hr hu; subst hr; subst hu; exact h.1
    | succ i => exact this.2 i r u (by simpa using hr) (by simpa using hu)
  | .cell a t :: rs, v :: vs, h => by
    have := resOk_at h.2
    refine ⟨by simp [this.1], fun i r u hr hu => ?_⟩
    cases i with
    | zero => simp at hr hu; subst hr; subst hu; exact h.1
    | succ i => exact this.2 i r u (by simpa using hr) (by simpa using hu)
  | [], _ :: _, h => h.elim
  | .tmp _ :: _, [], h => h.elim
  | .cell _ _ :: _, [], h => h.elim

theorem results_run {fn : Func} {rs : List ResultVar} {vs : List Value} (hf : fn.results = rs.toArray) (h : resOk P w (ev n Γ ρ) rs vs) :
    (results fn (act n Γ ρ ds).tmps).run P w = .ok (oneOf vs) w := by
  obtain ⟨hl, hv⟩ := resOk_at h
  have he : ∀ t, (act n Γ ρ ds).tmps.getD t undef = ev n Γ ρ (.tmp t) := fun t => by rw [← eval_act n Γ ρ ds]; rfl
  unfold results
  rw [hf, List.mapM_toArray]
  simp only [Sem.run_bind, Sem.run_map]
  rw [run_results _ rs vs hl (fun i r v hr hvv => by
    have := hv i r v hr hvv
    cases r with
    | tmp t => simp only [he]; simp only at this; rw [this]; rfl
    | cell a t => obtain ⟨x, hx, hr⟩ := this; simp only [he, hx, asAddr]; exact hr)]
  simp only [Result.andThen_ok]
  match vs with
  | [] => rfl
  | [v] => rfl
  | v :: u :: vs => simp [oneOf]

theorem ret_ {fn : Func} {rs : List ResultVar} (vs : List Value) {Φ : Value → World → Prop} (hf : fn.results = rs.toArray) (h : resOk P w (ev n Γ ρ) rs vs) (hr : Φ (oneOf vs) w) :
    bodyPost P fn (Ret Φ) .ret (act n Γ ρ []) w := ⟨rfl, _, results_run hf h, _, rfl, hr⟩
theorem end_ {fn : Func} {rs : List ResultVar} (vs : List Value) {Φ : Value → World → Prop} (hf : fn.results = rs.toArray) (h : resOk P w (ev n Γ ρ) rs vs) (hr : Φ (oneOf vs) w) :
    bodyPost P fn (Ret Φ) .normal (act n Γ ρ []) w := ⟨rfl, _, results_run hf h, _, rfl, hr⟩
end
end PB

/-! ## Operations that make or write memory -/
namespace PB
open Go Go.RowKit

section
variable {P : Program} {Q : Exit → Act → World → Prop} {K : Act → World → Prop} {n : Nat} {Γ : Fr} {ρ : Nat → Value} {ds : List Deferred} {w W0 : World}
  {L L' : List (Nat × MObj)} {ty t e : TypeId} {pos : String} {after : Array Edge} {g : Option (Nat × Bool)} {dst : Option Nat} {d b off : Nat} {x y : Operand} {v : Value} {cs : List Value}

def oneB : Value → Bool
  | .agg _ | .tuple _ => false
  | _ => true

theorem oneB_cells (h : oneB v = true) : v.cells = #[v] := by cases v <;> first | rfl | (simp [oneB] at h)

/-- A store of one cell into a block of the call's own. -/
theorem w_store {z : Option Value} {bs : Nat} (hs : St W0 w L) [ht : TInfo P t z 1 bs] (hx : ev n Γ ρ x = .pointer (some ⟨b, off, none⟩)) (hy : ev n Γ ρ y = v) (h1 : oneB v = true)
    [hi : InL b (.cells cs e) L] (hl : Nat.blt off cs.length = true) [u : Upd b (.cells (cs.set off v) e) L L'] (hk : ∀ w', St W0 w' L' → K ((act n Γ ρ ds).put dst undef) w') :
    OW P ⟨dst, .store t x y, ty, pos, after, g⟩ (act n Γ ρ ds) w K Q := by
  obtain ⟨inf, hi1, _, hi3, _⟩ := tinfo_some ht.out
  have hl : off < cs.length := Nat.le_of_ble_eq_true hl
  have hc : w.cell? ⟨b, off, none⟩ = some cs[off] := by rw [hs.cell hi.mem]; simp [hl]
  have hf := hs.free (off := off) hi.mem
  have h1' : v.oneCell' = true := by cases v <;> first | rfl | (simp [oneB] at h1)
  have hrun : (execOp (ev n Γ ρ) ⟨dst, .store t x y, ty, pos, after, g⟩).run P w = .ok .skip (w.setCell ⟨b, off, none⟩ v) := by
    simp [execOp, Instr.storeAt, Instr.sureAddr, hx, hy, storeVar, oneB_cells h1, Go.sizeOf, typeInfo, hi1, hi3, storeCells, Addr.add, run_store _ _ _ _ _ h1', hc, hf]
  constructor
  simp only [Oper.wp, eval_act, hrun, Oper.upon_skip]
  exact hk _ (hs.setCell (u := u) hi.mem v)

def setRange : List Value → Nat → List Value → List Value
  | cs, _, [] => cs
  | cs, off, v :: vs => setRange (cs.set off v) (off + 1) vs

theorem length_setRange : ∀ (vs cs : List Value) (off : Nat), (setRange cs off vs).length = cs.length
  | [], _, _ => rfl
  | v :: vs, cs, off => by simp [setRange, length_setRange vs]

/-- A store of a struct's cells. -/
theorem w_storeA {z : Option Value} {bs sz : Nat} {vs : List Value} (hs : St W0 w L) [ht : TInfo P t z sz bs] (hx : ev n Γ ρ x = .pointer (some ⟨b, off, none⟩)) (hy : ev n Γ ρ y = .agg vs.toArray) (h1 : vs.all oneB = true)
    (hz : vs.length = sz) [hi : InL b (.cells cs e) L] (hl : Nat.ble (off + sz) cs.length = true) [u : Upd b (.cells (setRange cs off vs) e) L L'] (hk : ∀ w', St W0 w' L' → K ((act n Γ ρ ds).put dst undef) w') :
    OW P ⟨dst, .store t x y, ty, pos, after, g⟩ (act n Γ ρ ds) w K Q := by
  obtain ⟨inf, hi1, _, hi3, _⟩ := tinfo_some ht.out
  have hl : off + sz ≤ cs.length := Nat.le_of_ble_eq_true hl
  have key : ∀ (vs : List Value) (i : Nat) (w : World) (L L' : List (Nat × MObj)) (cs : List Value), vs.all oneB = true → St W0 w L → InL b (.cells cs e) L → Upd b (.cells (setRange cs (off + i) vs) e) L L' → off + i + vs.length ≤ cs.length →
      ∃ w', (storeCells ⟨b, off, none⟩ vs i).run P w = .ok () w' ∧ St W0 w' L' := by
    intro vs
    induction vs with
    | nil =>
      intro i w L L' cs _ hs hi u _
      refine ⟨w, by simp [storeCells], ?_⟩
      exact hs.write (u := u) ⟨rfl, rfl, rfl, rfl⟩ (by simpa [setRange] using hs.heap hi.mem) (fun _ _ => rfl)
    | cons v vs ih =>
      intro i w L L' cs ha hs hi u hle
      simp only [List.all_cons, Bool.and_eq_true] at ha
      simp only [List.length_cons] at hle
      have hlt : off + i < cs.length := by omega
      have hadd : (⟨b, off, none⟩ : Addr).add i = ⟨b, off + i, none⟩ := by unfold Addr.add; split <;> simp_all
      have hc : w.cell? ⟨b, off + i, none⟩ = some cs[off + i] := by rw [hs.cell hi.mem]; simp [hlt]
      have hf := hs.free (off := off + i) hi.mem
      have h1' : v.oneCell' = true := by cases v <;> first | rfl | (simp [oneB] at ha)
      obtain ⟨pre, suf, o0, rfl, rfl⟩ := u.at_
      let u1 : Upd b (.cells (cs.set (off + i) v) e) (pre ++ (b, o0) :: suf) (pre ++ (b, .cells (cs.set (off + i) v) e) :: suf) := ⟨pre, suf, o0, rfl, rfl⟩
      have hs1 := hs.setCell (u := u1) hi.mem v
      obtain ⟨w', hr, hs'⟩ := ih (i + 1) _ _ (pre ++ (b, .cells (setRange cs (off + i) (v :: vs)) e) :: suf) (cs.set (off + i) v) ha.2 hs1 ⟨by simp⟩ ⟨pre, suf, _, rfl, rfl⟩ (by simp; omega)
      exact ⟨w', by
        simp only [storeCells, Sem.run_bind, hadd, run_store _ _ _ _ _ h1', hc, hf]
        exact hr, hs'⟩
  obtain ⟨w', hr, hs'⟩ := key vs 0 w L L' cs h1 hs hi u (by omega)
  have hrun : (execOp (ev n Γ ρ) ⟨dst, .store t x y, ty, pos, after, g⟩).run P w = .ok .skip w' := by
    simp [execOp, Instr.storeAt, Instr.sureAddr, hx, hy, storeVar, Value.cells, Go.sizeOf, typeInfo, hi1, hi3, hz, hr]
  constructor
  simp only [Oper.wp, eval_act, hrun, Oper.upon_skip]
  exact hk _ hs'

/-- A new variable that holds a value. -/
theorem w_box (hs : St W0 w L) (hx : ev n Γ ρ x = v) (hv : v.cells.toList = cs) (hk : ∀ b w', St W0 w' ((b, .cells cs t) :: L) → w.heap.size ≤ b → K (act n ((d, .pointer (some ⟨b, 0, none⟩)) :: Γ) ρ ds) w') :
    OW P ⟨some d, .box t x, ty, pos, after, g⟩ (act n Γ ρ ds) w K Q := by
  have hrun : (execOp (ev n Γ ρ) ⟨some d, .box t x, ty, pos, after, g⟩).run P w = .ok (.value (.pointer (some ⟨w.heap.size, 0, none⟩))) (w.alloc (MObj.cells cs t).toObj) := by
    subst hv
    simp [execOp, Instr.box, newVar, newRow, hx, MObj.toObj]
  constructor
  simp only [Oper.wp, eval_act, hrun, Oper.upon_value, put_act]
  exact hk _ _ (hs.alloc _) (Nat.le_refl _)

theorem w_box1 (hs : St W0 w L) (hx : ev n Γ ρ x = v) (hv : oneB v = true) (hk : ∀ b w', St W0 w' ((b, .cells [v] t) :: L) → w.heap.size ≤ b → K (act n ((d, .pointer (some ⟨b, 0, none⟩)) :: Γ) ρ ds) w') :
    OW P ⟨some d, .box t x, ty, pos, after, g⟩ (act n Γ ρ ds) w K Q := w_box hs hx (by rw [oneB_cells hv]) hk
theorem w_boxA {vs : List Value} (hs : St W0 w L) (hx : ev n Γ ρ x = .agg vs.toArray) (hk : ∀ b w', St W0 w' ((b, .cells vs t) :: L) → w.heap.size ≤ b → K (act n ((d, .pointer (some ⟨b, 0, none⟩)) :: Γ) ρ ds) w') :
    OW P ⟨some d, .box t x, ty, pos, after, g⟩ (act n Γ ρ ds) w K Q := w_box hs hx rfl hk

theorem w_alloc {sz bs : Nat} (hs : St W0 w L) [ht : TInfo P t (some v) sz bs] (hv : v.cells.toList = cs) (hk : ∀ b w', St W0 w' ((b, .cells cs t) :: L) → w.heap.size ≤ b → K (act n ((d, .pointer (some ⟨b, 0, none⟩)) :: Γ) ρ ds) w') :
    OW P ⟨some d, .alloc t, ty, pos, after, g⟩ (act n Γ ρ ds) w K Q := by
  obtain ⟨inf, hi1, hi2, _, _⟩ := tinfo_some ht.out
  have hrun : (execOp (ev n Γ ρ) ⟨some d, .alloc t, ty, pos, after, g⟩).run P w = .ok (.value (.pointer (some ⟨w.heap.size, 0, none⟩))) (w.alloc (MObj.cells cs t).toObj) := by
    subst hv
    simp [execOp, Instr.alloc, zeroValue, typeInfo, hi1, hi2, newVar, newRow, MObj.toObj]
  constructor
  simp only [Oper.wp, eval_act, hrun, Oper.upon_value, put_act]
  exact hk _ _ (hs.alloc _) (Nat.le_refl _)

/-- A call of a Go function, by its contract. -/
theorem w_call {f : FuncId} {cap : Array Value} {fop : Operand} {args : Array Operand} {tys : Array TypeId} {vs : List Value} {Φ : Value → World → Prop} (hf : ev n Γ ρ fop = .func (.func f) #[] cap)
    [he' : Enter P f] (hc : FnC P f vs w Φ) (ha : args.toList.map (ev n Γ ρ) ++ cap.toList = vs) (hk : ∀ v w', Φ v w' → K (act n ((d, v) :: Γ) ρ ds) w') :
    OW P ⟨some d, .call ⟨.value fop, args, tys⟩, ty, pos, after, g⟩ (act n Γ ρ ds) w K Q := by
  constructor
  simp only [Oper.wp, eval_act, run_call hf he'.out ha, Oper.upon_enter]
  refine hc.c.mono fun e w' ⟨v, he, hv⟩ => ?_
  subst he
  simp only [put_act]
  exact hk v w' hv
end
end PB

/-! ## Structs by value: equality, literals -/
namespace PB
open Go Go.RowKit

def sameInts : List Value → List Value → Option Bool
  | [], [] => some true
  | .int k a :: vs, .int k' b :: us => if k = k' then (sameInts vs us).map fun r => decide (a = b) && r else none
  | _, _ => none

def intFields (P : Program) : List Field → Nat → Bool
  | [], _ => true
  | f :: fs, i => f.offset == i && f.name != "_" && ((P.underlying f.type).map fun | .int _ => true | _ => false).getD false && intFields P fs (i + 1)

def intStructB (P : Program) (t : TypeId) (n : Nat) : Bool :=
  match P.underlying t with
  | some (.struct fs) => fs.size == n && intFields P fs.toList 0 && !P.stoodInHeld t && !P.eqGuardType P.depth t
  | _ => false

class IntStruct (P : Program) (t : TypeId) (n : outParam Nat) : Prop where
  out : intStructB P t n = true

section
variable {P : Program} {w : World} {ρ : Operand → Value} {ty : TypeId} {x y : Operand} {v : Value} {t s : TypeId}

theorem run_eqInts (d : Nat) : ∀ (fs : List Field) (i : Nat) (vs us pre pre' : List Value) (r : Bool), intFields P fs i = true → pre.length = i → pre'.length = i → vs.length = fs.length →
    sameInts vs us = some r → (Op.eqFields (d + 1) (pre ++ vs).toArray (pre' ++ us).toArray fs).run P w = .ok r w := by
  intro fs
  induction fs with
  | nil =>
    intro i vs us pre pre' r _ _ _ hl hs
    cases vs with
    | nil => cases us <;> simp [sameInts] at hs; subst hs; simp [Op.eqFields]
    | cons v vs => simp at hl
  | cons f fs ih =>
    intro i vs us pre pre' r hf hp hp' hl hs
    simp only [intFields, Bool.and_eq_true, beq_iff_eq, bne_iff_ne, ne_eq] at hf
    obtain ⟨⟨⟨h1, h2⟩, h3⟩, h4⟩ := hf
    cases vs with
    | nil => simp at hl
    | cons v vs =>
      cases us with
      | nil => cases v <;> simp [sameInts] at hs
      | cons u us =>
        cases v <;> try (simp [sameInts] at hs; done)
        rename_i k a
        cases u <;> try (simp [sameInts] at hs; done)
        rename_i k' b
        simp only [sameInts] at hs
        split at hs
        · rename_i hk
          subst hk
          cases hr : sameInts vs us with
          | none => simp [hr] at hs
          | some r' =>
            simp only [hr, Option.map_some, Option.some.injEq] at hs
            have hu : ∃ k0, P.underlying f.type = some (.int k0) := by
              cases hu : P.underlying f.type with
              | none => simp [hu] at h3
              | some d => cases d <;> simp [hu] at h3; exact ⟨_, rfl⟩
            obtain ⟨k0, hu⟩ := hu
            have hsc : scalarB P f.type = true := by simp [scalarB, hu]
            have hpa : (part f.type (pre ++ .int k a :: vs).toArray f.offset).run P w = .ok (.int k a) w := by
              simp [part, run_isAgg_scalar hsc, h1, hp]
            have hpb : (part f.type (pre' ++ .int k b :: us).toArray f.offset).run P w = .ok (.int k b) w := by
              simp [part, run_isAgg_scalar hsc, h1, hp']
            have ih' := ih (i + 1) vs us (pre ++ [.int k a]) (pre' ++ [.int k b]) r' h4 (by simp [hp]) (by simp [hp']) (by simpa using hl) hr
            simp only [List.append_assoc, List.singleton_append] at ih'
            rw [Op.eqFields]
            simp only [if_pos h2, Sem.run_bind, hpa, hpb, Result.andThen_ok, run_equalIn_int (P := P) w d f.type k k0 a b hu]
            subst hs
            by_cases hab : a = b
            · subst hab; simpa using ih'
            · simp [hab]
        · simp at hs

theorem run_eqStruct {n : Nat} [h : IntStruct P t n] {vs us : List Value} {r : Bool} (hn : vs.length = n) (hs : sameInts vs us = some r) :
    (do eqGuard .eql t x y (.agg vs.toArray) (.agg us.toArray); binOp .eql t (.agg vs.toArray) (.agg us.toArray)).run P w = .ok (.bool r) w ∧
    (do eqGuard .neq t x y (.agg vs.toArray) (.agg us.toArray); binOp .neq t (.agg vs.toArray) (.agg us.toArray)).run P w = .ok (.bool (!r)) w := by
  have ho := h.out
  unfold intStructB at ho
  split at ho
  · rename_i fs hu
    simp only [Bool.and_eq_true, beq_iff_eq, Bool.not_eq_true'] at ho
    obtain ⟨⟨⟨h1, h2⟩, h3⟩, h4⟩ := ho
    have hf : P.fieldsOf t = fs := by simp [Program.fieldsOf, hu]
    have he : (Op.equalIn 10000 t (.agg vs.toArray) (.agg us.toArray)).run P w = .ok r w := by
      rw [run_equalIn_struct (P := P) w 9999 t _ _ (by rw [hf]; exact hu) h3, hf]
      exact run_eqInts 9998 fs.toList 0 vs us [] [] r h2 rfl rfl (by simp [hn, h1]) hs
    constructor
    · simp [eqGuard, h4, binOp, Op.equal, Op.maxDepth, he]
    · simp [eqGuard, h4, binOp, Op.equal, Op.maxDepth, he]
  · cases ho

theorem y_eqlA {n : Nat} [IntStruct P t n] {vs us : List Value} {r : Bool} (hx : ρ x = .agg vs.toArray) (hy : ρ y = .agg us.toArray) (hn : vs.length = n) (hs : sameInts vs us = some r) :
    Yld P ρ (.binOp .eql t x y s) ty w (.bool r) := by
  constructor; intro _ _ _ _
  have := (run_eqStruct (P := P) (w := w) (x := x) (y := y) (t := t) hn hs).1
  simp only [execOp, hx, hy]
  simp only [Sem.run_bind] at this ⊢
  rw [this]; rfl
theorem y_neqA {n : Nat} [IntStruct P t n] {vs us : List Value} {r : Bool} (hx : ρ x = .agg vs.toArray) (hy : ρ y = .agg us.toArray) (hn : vs.length = n) (hs : sameInts vs us = some r) :
    Yld P ρ (.binOp .neq t x y s) ty w (.bool (!r)) := by
  constructor; intro _ _ _ _
  have := (run_eqStruct (P := P) (w := w) (x := x) (y := y) (t := t) hn hs).2
  simp only [execOp, hx, hy]
  simp only [Sem.run_bind] at this ⊢
  rw [this]; rfl

def allInts : List Value → Bool
  | [] => true
  | .int _ _ :: vs => allInts vs
  | _ => false
theorem sameInts_self : ∀ {vs : List Value}, allInts vs = true → sameInts vs vs = some true
  | [], _ => rfl
  | v :: vs, h => by
    cases v <;> try (simp [allInts] at h; done)
    simp only [allInts] at h
    simp [sameInts, sameInts_self h]
theorem y_eqlAt {n : Nat} [IntStruct P t n] {vs : List Value} (hx : ρ x = .agg vs.toArray) (hy : ρ y = .agg vs.toArray) (hn : vs.length = n) (hs : allInts vs = true) :
    Yld P ρ (.binOp .eql t x y s) ty w (.bool true) := y_eqlA hx hy hn (sameInts_self hs)

/-! ### Struct literals -/
def cellsL : Value → List Value
  | .agg cs => cs.toList
  | v => [v]
theorem cellsL_eq (v : Value) : v.cells.toList = cellsL v := by cases v <;> rfl

def fillL (places : List (Nat × Nat)) : List Value → List (Nat × Value) → Option (List Value)
  | cs, [] => some cs
  | cs, (i, v) :: rest =>
    match places[i]? with
    | none => none
    | some (off, sz) => if (cellsL v).length = sz ∧ off + sz ≤ cs.length then fillL places (setRange cs off (cellsL v)) rest else none

theorem foldl_setRange (off : Nat) : ∀ (vs : List Value) (j : Nat) (cs : List Value),
    ((vs.zipIdx j).foldl (fun (cs : Array Value) (p : Value × Nat) => cs.setIfInBounds (off + p.2) p.1) cs.toArray) = (setRange cs (off + j) vs).toArray := by
  intro vs
  induction vs with
  | nil => intro j cs; simp [setRange]
  | cons v vs ih =>
    intro j cs
    simp only [List.zipIdx_cons, List.foldl_cons, setRange, List.setIfInBounds_toArray]
    exact ih (j + 1) _

theorem fill_eq (places : List (Nat × Nat)) : ∀ (parts : List (Nat × Value)) (cs vs : List Value), fillL places cs parts = some vs →
    Instr.fill (places.toArray[·]?) cs.toArray parts = some vs.toArray := by
  intro parts
  induction parts with
  | nil => intro cs vs h; simp [fillL] at h; subst h; rfl
  | cons p parts ih =>
    intro cs vs h
    obtain ⟨i, v⟩ := p
    simp only [fillL] at h
    split at h
    · cases h
    · rename_i off sz hp
      split at h
      · rename_i hc
        have hsz : v.cells.size = sz := by rw [← hc.1, ← cellsL_eq]; simp
        simp only [Instr.fill, List.getElem?_toArray, hp, hsz, ne_eq, not_true_eq_false, decide_false, Bool.false_or]
        rw [if_neg (by simp; omega)]
        have hz : (v.cells.zipIdx.foldl (fun cs x => match x with | (c, j) => cs.setIfInBounds (off + j) c) cs.toArray) = (setRange cs off (cellsL v)).toArray := by
          have := foldl_setRange off (cellsL v) 0 cs
          rw [← cellsL_eq] at this ⊢
          rw [Nat.add_zero] at this
          rw [← this, ← Array.foldl_toList]
          simp
        rw [hz]
        have := ih _ _ h
        simpa using this
      · cases h

def placesOf (P : Program) (t : TypeId) : Option (List (Nat × Nat)) :=
  match P.underlying t with
  | some (.struct fs) => fs.toList.mapM fun f => (P.info? f.type).map fun i => (f.offset, i.size)
  | _ => none

class BuildT (P : Program) (t : TypeId) (places : outParam (List (Nat × Nat))) : Prop where
  out : placesOf P t = some places

theorem run_places : ∀ (fs : List Field) (ps : List (Nat × Nat)), (fs.mapM fun f => (P.info? f.type).map fun i => (f.offset, i.size)) = some ps →
    (fs.mapM fun f => (do pure (f.offset, ← Go.sizeOf f.type) : Sem (Nat × Nat))).run P w = .ok ps w := by
  intro fs
  induction fs with
  | nil => intro ps h; simp at h; subst h; simp
  | cons f fs ih =>
    intro ps h
    rw [List.mapM_cons] at h ⊢
    cases hi : P.info? f.type with
    | none => simp [hi] at h
    | some inf =>
      simp only [hi, Option.map_some] at h
      cases hr : (fs.mapM fun f => (P.info? f.type).map fun i => (f.offset, i.size)) with
      | none => rw [hr] at h; simp at h
      | some ps' =>
        rw [hr] at h
        simp at h
        subst h
        have h1 : ((do pure (f.offset, ← Go.sizeOf f.type) : Sem (Nat × Nat))).run P w = .ok (f.offset, inf.size) w := by simp [Go.sizeOf, typeInfo, hi]
        simp only [Sem.run_bind] at h1 ⊢
        rw [h1]
        simp only [Result.andThen_ok]
        rw [ih ps' hr]
        rfl

theorem y_build {ps : List (Nat × Nat)} {zs : List Value} {sz bs : Nat} {parts : List (Nat × Operand)} {pv : List (Nat × Value)} {vs : List Value} [hb : BuildT P t ps] [ht : TInfo P t (some (.agg zs.toArray)) sz bs]
    (hp : parts.map (fun p => (p.1, ρ p.2)) = pv) (hv : fillL ps zs pv = some vs) : Yld P ρ (.build t parts.toArray) ty w (.agg vs.toArray) := by
  constructor; intro _ _ _ _
  have hpl := hb.out
  obtain ⟨inf, hi1, hi2, _, _⟩ := tinfo_some ht.out
  unfold placesOf at hpl
  split at hpl
  · rename_i fs hu
    have hr := run_places (P := P) (w := w) fs.toList ps hpl
    have hm : (fs.mapM fun f => (do pure (f.offset, ← Go.sizeOf f.type) : Sem (Nat × Nat))).run P w = .ok ps.toArray w := by
      rw [Array.mapM_eq_mapM_toList]
      simp only [Sem.run_map, hr, Result.andThen_ok]
    have hf := fill_eq ps pv zs vs hv
    have hpv : (parts.toArray.map fun (x : Nat × Operand) => match x with | (i, x) => (i, ρ x)).toList = pv := by rw [← hp]; simp
    simp only [execOp, Instr.build, Sem.run_bind, zeroValue, typeInfo, run_program, Result.andThen_ok, hi1, hi2, Sem.run_pure, underlying, hu, Value.cells]
    rw [hm]
    simp only [Result.andThen_ok]
    rw [hpv, hf]
    simp
  · cases hpl
end
end PB

namespace PB
open Go Go.RowKit
section
variable {P : Program} {w W0 : World} {t : TypeId} {L : List (Nat × MObj)}
/-- A result that lies in memory. -/
theorem run_ldA {b o sz : Nat} {cs vs : List Value} {e : TypeId} {z : Option Value} {bs : Nat} (hs : St W0 w L) [ht : AggT P t] [hz : TInfo P t z sz bs] [hi : InL b (.cells cs e) L]
    (hl : Nat.ble (o + sz) cs.length = true) (hv : (cs.drop o).take sz = vs) : (loadVar t ⟨b, o, none⟩).run P w = .ok (.agg vs.toArray) w := by
  obtain ⟨inf, h1, _, h3, _⟩ := tinfo_some hz.out
  subst hv
  simp [loadVar, run_isAgg_agg ht.out, Go.sizeOf, typeInfo, h1, h3, run_loadCells (w := w) (P := P) (fun i => hs.cell (off := i) hi.mem) (Nat.le_of_ble_eq_true hl)]
theorem run_ld1 {b o : Nat} {cs : List Value} {v : Value} {e : TypeId} (hs : St W0 w L) [ht : Scalar P t] [hi : InL b (.cells cs e) L] (hc : cs[o]? = some v) : (loadVar t ⟨b, o, none⟩).run P w = .ok v w := by
  have : w.cell? ⟨b, o, none⟩ = some v := by rw [hs.cell hi.mem]; exact hc
  simp [loadVar, run_isAgg_scalar ht.out, this]
end
end PB

namespace PB
open Go Go.RowKit
section
variable {P : Program} {w : World} {ρ : Operand → Value} {ty t s : TypeId} {x y : Operand}
theorem y_eqlB {a b r : Bool} [hu : Under P t .bool] (hx : ρ x = .bool a) (hy : ρ y = .bool b) (h : (a == b) = r) : Yld P ρ (.binOp .eql t x y s) ty w (.bool r) := by
  constructor; intro _ _ _ _
  subst h
  have he := run_equalIn_bool (P := P) w 9999 t a b hu.out
  simp [execOp, eqGuard, hx, hy, binOp, Op.equal, Op.maxDepth, he]
theorem y_neqB {a b r : Bool} [hu : Under P t .bool] (hx : ρ x = .bool a) (hy : ρ y = .bool b) (h : (a != b) = r) : Yld P ρ (.binOp .neq t x y s) ty w (.bool r) := by
  constructor; intro _ _ _ _
  subst h
  have he := run_equalIn_bool (P := P) w 9999 t a b hu.out
  simp [execOp, eqGuard, hx, hy, binOp, Op.equal, Op.maxDepth, he]; cases a <;> cases b <;> rfl
end
end PB

/-! ## Slices that came in -/
namespace PB
open Go Go.RowKit
/-- A slice of whole numbers that came in: its first len elements. -/
structure Ints (W0 : World) (a : Option Addr) (len : Nat) (zs : List Int) : Prop where
  at_ : ∀ i, i < len → ∃ x, a = some x ∧ W0.cell? (x.add i) = some (.int .i64 (zs.getD i 0))
section
variable {P : Program} {w W0 : World} {ρ : Operand → Value} {ty t : TypeId} {L : List (Nat × MObj)} {x i : Operand} {v : Value} {k : IntKind}

theorem lt_of_cell {a : Addr} (h : W0.cell? a = some v) : a.block < W0.heap.size := by
  unfold World.cell? at h
  split at h
  · rename_i h'; exact World.lt_of_some h'
  · cases h

theorem y_ldOld {a : Addr} (hs : St W0 w L) [Scalar P t] (hx : ρ x = .pointer (some a)) (hc : W0.cell? a = some v) : Yld P ρ (.load t x) ty w v :=
  y_load hx (by rw [hs.old (lt_of_cell hc)]; exact hc)

theorem y_indexA {a : Option Addr} {ad : Addr} {n c e sz : Nat} {j : Int} [he' : SliceT P t e sz] (hx : ρ x = .slice a n c) (hi : ρ i = .int k j) (h0 : 0 ≤ j) (h1 : j < n) (ha : a = some ad) :
    Yld P ρ (.indexAddr t x i) ty w (.pointer (some (ad.add (j.toNat * sz)))) := by
  constructor; intro _ _ _ _
  have he := he'.out
  unfold sliceElem at he
  split at he
  · rename_i e' hu
    cases hinf : P.info? e' with
    | none => simp [hinf] at he
    | some inf =>
      simp only [hinf, Option.map_some, Option.some.injEq, Prod.mk.injEq] at he
      obtain ⟨rfl, rfl⟩ := he
      subst ha
      simp [execOp, Instr.indexAt, asIntOf, underlying, hu, hx, hi, h0, h1, Go.sizeOf, typeInfo, hinf]
  · cases he
theorem y_indexA1 {a : Option Addr} {ad : Addr} {n c e : Nat} {j : Int} [SliceT P t e 1] (hx : ρ x = .slice a n c) (hi : ρ i = .int k j) (h0 : 0 ≤ j) (h1 : j < n) (ha : a = some ad) :
    Yld P ρ (.indexAddr t x i) ty w (.pointer (some (ad.add j.toNat))) := by
  have := y_indexA (P := P) (w := w) (ty := ty) (t := t) (sz := 1) hx hi h0 h1 ha
  simpa using this
end
end PB

/-! ## Slices that the call makes: literals, make, append -/
namespace PB
open Go Go.RowKit

section
variable {W0 w : World} {L L' A R : List (Nat × MObj)} {b off : Nat} {cs vs : List Value} {e : TypeId} {o : MObj} {P : Program}

instance InL.app {b : Nat} {o : MObj} {A L : List (Nat × MObj)} [h : InL b o L] : InL b o (A ++ L) := ⟨List.mem_append_right _ h.mem⟩
instance Upd.app {b : Nat} {o : MObj} {A L L' : List (Nat × MObj)} [h : Upd b o L L'] : Upd b o (A ++ L) (A ++ L') := by
  obtain ⟨pre, suf, o0, rfl, rfl⟩ := h.at_
  exact ⟨A ++ pre, suf, o0, by simp, by simp⟩
instance Sel.app {b : Nat} {o : MObj} {A L L' : List (Nat × MObj)} [h : Sel b o L L'] : Sel b o (A ++ L) (A ++ L') := by
  obtain ⟨pre, suf, rfl, rfl⟩ := h.at_
  exact ⟨A ++ pre, suf, by simp, by simp⟩

/-- L' is a part of L, in its order. -/
class SubL (L' L : List (Nat × MObj)) : Prop where
  sub : L'.Sublist L
instance (priority := 1300) SubL.nil {L : List (Nat × MObj)} : SubL [] L := ⟨List.nil_sublist _⟩
instance (priority := 1200) SubL.same {L : List (Nat × MObj)} : SubL L L := ⟨List.Sublist.refl _⟩
instance (priority := 1100) SubL.cons {p : Nat × MObj} {L' L : List (Nat × MObj)} [h : SubL L' L] : SubL (p :: L') (p :: L) := ⟨h.sub.cons_cons _⟩
instance (priority := 1050) SubL.app {A L' L : List (Nat × MObj)} [h : SubL L' L] : SubL (A ++ L') (A ++ L) := ⟨h.sub.append_left _⟩
instance SubL.drop {p : Nat × MObj} {L' L : List (Nat × MObj)} [h : SubL L' L] : SubL L' (p :: L) := ⟨h.sub.cons _⟩
instance SubL.dropA {A L' L : List (Nat × MObj)} [h : SubL L' L] : SubL L' (A ++ L) := ⟨h.sub.trans (List.sublist_append_right ..)⟩
theorem St.subl (h : St W0 w L) [hs : SubL L' L] : St W0 w L' := h.sub hs.sub

theorem addr_add (b o i : Nat) : (⟨b, o, none⟩ : Addr).add i = ⟨b, o + i, none⟩ := by unfold Addr.add; split <;> simp_all

theorem st_storeCells : ∀ (vs : List Value) (i : Nat) (w : World) (L L' : List (Nat × MObj)) (cs : List Value), vs.all oneB = true → St W0 w L → (b, .cells cs e) ∈ L → Upd b (.cells (setRange cs (off + i) vs) e) L L' →
    off + i + vs.length ≤ cs.length → ∃ w', (storeCells ⟨b, off, none⟩ vs i).run P w = .ok () w' ∧ St W0 w' L' ∧ w'.heap.size = w.heap.size := by
  intro vs
  induction vs with
  | nil =>
    intro i w L L' cs _ hs hi u _
    refine ⟨w, by simp [storeCells], ?_, rfl⟩
    exact hs.write (u := u) ⟨rfl, rfl, rfl, rfl⟩ (by simpa [setRange] using hs.heap hi) (fun _ _ => rfl)
  | cons v vs ih =>
    intro i w L L' cs ha hs hi u hle
    simp only [List.all_cons, Bool.and_eq_true] at ha
    simp only [List.length_cons] at hle
    have hlt : off + i < cs.length := by omega
    have hc : w.cell? ⟨b, off + i, none⟩ = some cs[off + i] := by rw [hs.cell hi]; simp [hlt]
    have hf := hs.free (off := off + i) hi
    have h1' : v.oneCell' = true := by cases v <;> first | rfl | (simp [oneB] at ha)
    obtain ⟨pre, suf, o0, rfl, rfl⟩ := u.at_
    let u1 : Upd b (.cells (cs.set (off + i) v) e) (pre ++ (b, o0) :: suf) (pre ++ (b, .cells (cs.set (off + i) v) e) :: suf) := ⟨pre, suf, o0, rfl, rfl⟩
    have hs1 := hs.setCell (u := u1) hi v
    obtain ⟨w', hr, hs', hz⟩ := ih (i + 1) _ _ (pre ++ (b, .cells (setRange cs (off + i) (v :: vs)) e) :: suf) (cs.set (off + i) v) ha.2 hs1 (by simp) ⟨pre, suf, _, rfl, rfl⟩ (by simp; omega)
    refine ⟨w', ?_, hs', by rw [hz]; simp [World.setCell]⟩
    simp only [storeCells, Sem.run_bind, addr_add, run_store _ _ _ _ _ h1', hc, hf]
    exact hr

theorem setRange_append : ∀ (vs xs sp : List Value), vs.length ≤ sp.length → setRange (xs ++ sp) xs.length vs = xs ++ (vs ++ sp.drop vs.length)
  | [], xs, sp, _ => by simp [setRange]
  | v :: vs, xs, [], h => by simp at h
  | v :: vs, xs, s :: sp, h => by
    have h1 : (xs ++ s :: sp).set xs.length v = (xs ++ [v]) ++ sp := by simp
    have h2 : xs.length + 1 = (xs ++ [v]).length := by simp
    simp only [setRange]
    rw [h1, h2, setRange_append vs (xs ++ [v]) sp (by simpa using h)]
    simp

/-- A slice of the call's own: its block (none: nil), its capacity, what lies behind its elements. -/
structure OS where
  a : Option Nat
  cap : Nat
  sp : List Value

def OS.nl : OS := ⟨none, 0, []⟩
def OS.ad (s : OS) : Option Addr := s.a.map fun g => ⟨g, 0, none⟩
def OS.blk (s : OS) (xs : List Value) (e : TypeId) : List (Nat × MObj) := match s.a with | none => [] | some g => [(g, .cells (xs ++ s.sp) e)]
structure OS.ok (s : OS) (xs : List Value) (len sz : Nat) : Prop where
  len_ : xs.length = len * sz
  sp_ : s.sp.length = (s.cap - len) * sz
  cap_ : len ≤ s.cap
  nil_ : s.a = none → len = 0 ∧ s.cap = 0 ∧ s.sp = []

theorem OS.ok_nl (sz : Nat) : OS.nl.ok [] 0 sz := ⟨by simp, by simp [OS.nl], Nat.le_refl _, fun _ => ⟨rfl, rfl, rfl⟩⟩

theorem growBy_le (newLen : Nat) : ∀ (r c : Nat), c ≤ newLen → Builtin.growBy newLen r c ≤ 2 * newLen + 1000
  | 0, c, h => by simp [Builtin.growBy]; omega
  | r + 1, c, h => by
    unfold Builtin.growBy
    split
    · omega
    · by_cases h2 : c + (c + 768) / 4 ≤ newLen
      · exact growBy_le newLen r _ h2
      · have : Builtin.growBy newLen r (c + (c + 768) / 4) = c + (c + 768) / 4 := by
          cases r with
          | zero => rfl
          | succ r => unfold Builtin.growBy; rw [if_pos (by omega)]
        rw [this]; omega

theorem nextslicecap_le (need cap : Nat) (h : cap < need) : Builtin.nextslicecap need cap ≤ 2 * need + 1000 := by
  unfold Builtin.nextslicecap
  split
  · omega
  · split
    · omega
    · exact growBy_le need 4 cap (by omega)

theorem length_zeroCells (z : Array Value) (n : Nat) : (Builtin.zeroCells z n).toList.length = n * z.size := by simp [Builtin.zeroCells]

theorem run_firstCells {k o m : Nat} {c : Nat} (hs : St W0 w L) (hi : (b, .cells cs e) ∈ L) (h : o + m * k ≤ cs.length) : (Builtin.firstCells k m (.slice (some ⟨b, o, none⟩) m c)).run P w = .ok ((cs.drop o).take (m * k)).toArray w :=
  run_loadCells (fun i => hs.cell (off := i) hi) h

/-- What append does, in both its ways. -/
theorem run_append {s : OS} {xs ys zs : List Value} {len m c sz bs bx ox : Nat} {t t2 e2 ty : TypeId} {z : Value} (hs : St W0 w (A ++ (s.blk xs e ++ R))) (hok : s.ok xs len sz) (hT : SliceT P t e sz) (hI : TInfo P e (some z) sz bs)
    (hz : z.cells.size = sz) (hT2 : Under P t2 (.slice e2)) (hin : (bx, .cells zs e2) ∈ A ++ (s.blk xs e ++ R)) (hl : ox + m * sz ≤ zs.length) (hy : (zs.drop ox).take (m * sz) = ys) (hone : ys.all oneB = true) (hm : 0 < m ∨ s.a ≠ none) (hb : 0 < bs)
    (hroom : (2 * (len + m) + 1000) * bs ≤ 2 ^ 48) :
    ∃ (s' : OS) (w' : World), (Builtin.append_ #[t, t2] ty #[.slice s.ad len s.cap, .slice (some ⟨bx, ox, none⟩) m c]).run P w = .ok (.slice s'.ad (len + m) s'.cap) w' ∧ s'.ok (xs ++ ys) (len + m) sz ∧ (∃ g, s'.a = some g) ∧ St W0 w' (A ++ (s'.blk (xs ++ ys) e ++ R)) := by
  obtain ⟨inf, hi1, hi2, hi3, hi4⟩ := tinfo_some hI.out
  have hTo := hT.out
  unfold sliceElem at hTo
  have hu : P.underlying t = some (.slice e) := by
    split at hTo
    · rename_i e' hu
      cases hinf : P.info? e' with
      | none => simp [hinf] at hTo
      | some i => simp [hinf] at hTo; rw [hu, hTo.1]
    · cases hTo
  have hu2 := hT2.out
  have hylen : ys.length = m * sz := by rw [← hy]; simp; omega
  have hfirst := run_firstCells (P := P) (k := sz) (o := ox) (m := m) (c := c) hs hin hl
  rw [hy] at hfirst
  by_cases hfit : len + m ≤ s.cap
  · -- there is room
    cases ha : s.a with
    | none =>
      have := hok.nil_ ha
      rcases hm with hm | hm
      · omega
      · exact absurd ha hm
    | some g =>
      have hblk : s.blk xs e = [(g, .cells (xs ++ s.sp) e)] := by simp [OS.blk, ha]
      have hsp : m * sz ≤ s.sp.length := by rw [hok.sp_]; exact Nat.mul_le_mul_right _ (by omega)
      have hcs : setRange (xs ++ s.sp) (len * sz + 0) ys = xs ++ (ys ++ s.sp.drop ys.length) := by
        rw [Nat.add_zero, ← hok.len_]; exact setRange_append ys xs s.sp (by omega)
      rw [hblk] at hs hin
      have hmem : (g, MObj.cells (xs ++ s.sp) e) ∈ A ++ ([(g, MObj.cells (xs ++ s.sp) e)] ++ R) := by simp
      obtain ⟨w', hr, hs', _⟩ := st_storeCells (P := P) (W0 := W0) (b := g) (off := len * sz) (e := e) ys 0 w _ (A ++ ([(g, MObj.cells (setRange (xs ++ s.sp) (len * sz + 0) ys) e)] ++ R)) (xs ++ s.sp) hone hs hmem ⟨A, R, _, by simp; rfl, by simp⟩ (by simp [hok.len_]; omega)
      refine ⟨⟨some g, s.cap, s.sp.drop ys.length⟩, w', ?_, ⟨by simp [hok.len_, hylen, Nat.add_mul], ?_, hfit, fun h => by cases h⟩, ⟨g, rfl⟩, ?_⟩
      · simp only [Builtin.append_, List.getElem?_toArray, List.getElem?_cons_zero, List.getElem?_cons_succ, Sem.run_bind, run_underlying hu, Result.andThen_ok, OS.ad, ha, Option.map_some, Go.sizeOf, typeInfo, run_program, hi1, Sem.run_pure, hi3,
          run_underlying hu2, Builtin.lenOf, Bool.false_eq_true, if_false, hfit, if_true, Bool.not_false, hfirst, addr_add, Nat.zero_add]
        simp only [Result.andThen_ok, hr]
      · simp only [List.length_drop, hok.sp_, hylen]
        rw [← Nat.sub_mul]; congr 1; omega
      · rw [hcs] at hs'
        simpa [OS.blk] using hs'
  · -- a new array
    have hnc := nextslicecap_le (len + m) s.cap (by omega)
    have hnc2 : ¬ (Builtin.nextslicecap (len + m) s.cap * inf.bytes > 2 ^ 48) := by
      rw [hi4]
      have := Nat.mul_le_mul_right bs hnc
      omega
    have hold : ∀ w1, St W0 w1 (A ++ (s.blk xs e ++ R)) → (Builtin.firstCells sz len (.slice s.ad len s.cap)).run P w1 = .ok xs.toArray w1 := by
      intro w1 hs1
      cases ha : s.a with
      | none =>
        have := hok.nil_ ha
        have hx : xs = [] := List.length_eq_zero_iff.1 (by rw [hok.len_, this.1]; simp)
        simp [OS.ad, ha, Builtin.firstCells, hx]
      | some g =>
        have hmem : (g, MObj.cells (xs ++ s.sp) e) ∈ A ++ (s.blk xs e ++ R) := by simp [OS.blk, ha]
        have := run_firstCells (P := P) (k := sz) (o := 0) (m := len) (c := s.cap) hs1 hmem (by simp [hok.len_])
        simp only [OS.ad, ha, Option.map_some]
        rw [this]
        simp [← hok.len_]
    have hbig : ¬ (((len + m : Nat) : Int) > IntKind.i64.max ∧ (False ∨ inf.bytes = 0)) := by
      rintro ⟨_, h | h⟩
      · exact h
      · rw [hi4] at h; omega
    let T := (Question.appendCap (len + m) s.cap e).cut (w.tape w.drawn (.appendCap (len + m) s.cap e))
    have hT : len + m ≤ T := by simp only [T, Question.cut]; omega
    let rest := (Builtin.zeroCells z.cells (T - (len + m))).toList
    refine ⟨⟨some w.heap.size, T, rest⟩, w.drew.alloc (MObj.cells (xs ++ ys ++ rest) e).toObj, ?_, ⟨by simp [hok.len_, hylen, Nat.add_mul], ?_, hT, fun h => by cases h⟩, ⟨_, rfl⟩, ?_⟩
    · have hd := hs.drew
      have hf2 := run_firstCells (P := P) (k := sz) (o := ox) (m := m) (c := c) hd hin hl
      rw [hy] at hf2
      have ho2 := hold _ hd
      have hch : (choose (.appendCap (len + m) s.cap e)).run P w = .ok T w.drew := by
        rw [run_choose]; simp [Question.forced, T]
      simp only [Builtin.append_, List.getElem?_toArray, List.getElem?_cons_zero, List.getElem?_cons_succ, Sem.run_bind, run_underlying hu, Result.andThen_ok, Go.sizeOf, typeInfo, run_program, hi1, Sem.run_pure, hi3,
          run_underlying hu2, Builtin.lenOf, Bool.false_eq_true, if_false, hfit, hbig, hnc2, hch, run_askRoom, ho2, hf2, Bool.not_false, if_true, zeroValue, hi2, newRow, run_newObj]
      simp [OS.ad, MObj.toObj, rest]
      show w.drew.alloc _ = w.drew.alloc _
      congr 2
      apply Array.ext'
      simp
    · simp only [rest, length_zeroCells, hz]
    · have h1 := (hs.drew).alloc (.cells (xs ++ ys ++ rest) e)
      have h2 : St W0 (w.drew.alloc (MObj.cells (xs ++ ys ++ rest) e).toObj) (A ++ ((w.heap.size, MObj.cells (xs ++ ys ++ rest) e) :: (s.blk xs e ++ R))) := h1.perm List.perm_middle.symm
      have h3 := h2.sub (L' := A ++ ((w.heap.size, MObj.cells (xs ++ ys ++ rest) e) :: R)) (List.Sublist.append_left (List.Sublist.cons_cons _ (List.sublist_append_right ..)) A)
      simpa [OS.blk] using h3

variable {Q : Exit → Act → World → Prop} {K : Act → World → Prop} {n : Nat} {Γ : Fr} {ρ : Nat → Value} {ds : List Deferred} {ty t : TypeId} {pos : String} {after : Array Edge} {g : Option (Nat × Bool)} {d : Nat} {x y : Operand} {v : Value}

theorem w_append {s : OS} {xs ys zs : List Value} {len m c sz bs bx ox : Nat} {t2 e2 : TypeId} {z : Value} (A : List (Nat × MObj)) (hs : St W0 w (A ++ (s.blk xs e ++ R))) (hok : s.ok xs len sz) [hT : SliceT P t e sz] [hI : TInfo P e (some z) sz bs] [hT2 : Under P t2 (.slice e2)]
    (hx : ev n Γ ρ x = .slice s.ad len s.cap) (hy : ev n Γ ρ y = .slice (some ⟨bx, ox, none⟩) m c) [hin : InL bx (.cells zs e2) (A ++ (s.blk xs e ++ R))] (hz : z.cells.size = sz) (hl : Nat.ble (ox + m * sz) zs.length = true) (hys : (zs.drop ox).take (m * sz) = ys) (hone : ys.all oneB = true)
    (hm : 0 < m ∨ s.a ≠ none) (hb : 0 < bs) (hroom : (2 * (len + m) + 1000) * bs ≤ 2 ^ 48)
    (hk : ∀ (s' : OS) w', s'.ok (xs ++ ys) (len + m) sz → (∃ g, s'.a = some g) → St W0 w' (A ++ (s'.blk (xs ++ ys) e ++ R)) → K (act n ((d, .slice s'.ad (len + m) s'.cap) :: Γ) ρ ds) w') :
    OW P ⟨some d, .call ⟨.builtin .append, #[x, y], #[t, t2]⟩, ty, pos, after, g⟩ (act n Γ ρ ds) w K Q := by
  obtain ⟨s', w', hr, hok', hg, hs'⟩ := run_append (P := P) (ty := ty) (c := c) hs hok hT hI hz hT2 hin.mem (Nat.le_of_ble_eq_true hl) hys hone hm hb hroom
  constructor
  have hrun : (execOp (ev n Γ ρ) ⟨some d, .call ⟨.builtin .append, #[x, y], #[t, t2]⟩, ty, pos, after, g⟩).run P w = .ok (.value (.slice s'.ad (len + m) s'.cap)) w' := by
    simp [execOp, resolve, invoke, builtin, hx, hy, hr]
  simp only [Oper.wp, eval_act, hrun, Oper.upon_value, put_act]
  exact hk s' w' hok' hg hs'

def fillF (sz : Nat) : List Value → List (Nat × Value) → Option (List Value)
  | cs, [] => some cs
  | cs, (i, v) :: rest => if (cellsL v).length = sz ∧ i * sz + sz ≤ cs.length then fillF sz (setRange cs (i * sz) (cellsL v)) rest else none

theorem fillF_eq (sz : Nat) : ∀ (parts : List (Nat × Value)) (cs vs : List Value), fillF sz cs parts = some vs → Instr.fill (fun i => some (i * sz, sz)) cs.toArray parts = some vs.toArray := by
  intro parts
  induction parts with
  | nil => intro cs vs h; simp [fillF] at h; subst h; rfl
  | cons p parts ih =>
    intro cs vs h
    obtain ⟨i, v⟩ := p
    simp only [fillF] at h
    split at h
    · rename_i hc
      have hsz : v.cells.size = sz := by rw [← hc.1, ← cellsL_eq]; simp
      simp only [Instr.fill, hsz, ne_eq, not_true_eq_false, decide_false, Bool.false_or]
      rw [if_neg (by simp; omega)]
      have hz : (v.cells.zipIdx.foldl (fun cs x => match x with | (c, j) => cs.setIfInBounds (i * sz + j) c) cs.toArray) = (setRange cs (i * sz) (cellsL v)).toArray := by
        have := foldl_setRange (i * sz) (cellsL v) 0 cs
        rw [← cellsL_eq] at this ⊢
        rw [Nat.add_zero] at this
        rw [← this, ← Array.foldl_toList]
        simp
      rw [hz]
      exact ih _ _ h
    · cases h

def zerosL (z : Value) (k : Nat) : List Value := (List.range k).map fun i => z.cells[i % z.cells.size]!

theorem w_buildSlice {z : Value} {sz bs k : Nat} {parts : List (Nat × Operand)} {pv : List (Nat × Value)} {vs : List Value} (hs : St W0 w L) [hT : SliceT P t e sz] [hI : TInfo P e (some z) sz bs] (hp : parts.map (fun p => (p.1, ev n Γ ρ p.2)) = pv)
    (hk0 : Nat.ble 1 (k * sz) = true) (hk1 : Nat.ble (k * sz) 16777216 = true) (hv : fillF sz (zerosL z (k * sz)) pv = some vs) (hk : ∀ b w', St W0 w' ((b, .cells vs e) :: L) → w.heap.size ≤ b → K (act n ((d, .slice (some ⟨b, 0, none⟩) k k) :: Γ) ρ ds) w') :
    OW P ⟨some d, .buildSlice t k parts.toArray, ty, pos, after, g⟩ (act n Γ ρ ds) w K Q := by
  obtain ⟨inf, hi1, hi2, hi3, hi4⟩ := tinfo_some hI.out
  have hTo := hT.out
  unfold sliceElem at hTo
  have hu : P.underlying t = some (.slice e) := by
    split at hTo
    · rename_i e' hu
      cases hinf : P.info? e' with
      | none => simp [hinf] at hTo
      | some i => simp [hinf] at hTo; rw [hu, hTo.1]
    · cases hTo
  have h1 := Nat.le_of_ble_eq_true hk0
  have h2 := Nat.le_of_ble_eq_true hk1
  have hf := fillF_eq sz pv _ _ hv
  have hzz : ((Array.range (k * sz)).map (fun i => z.cells[i % z.cells.size]!)) = (zerosL z (k * sz)).toArray := by
    apply Array.ext'; simp [zerosL]
  have hrun : (execOp (ev n Γ ρ) ⟨some d, .buildSlice t k parts.toArray, ty, pos, after, g⟩).run P w = .ok (.value (.slice (some ⟨w.heap.size, 0, none⟩) k k)) (w.alloc (MObj.cells vs e).toObj) := by
    have hpv : (parts.toArray.map fun (x : Nat × Operand) => match x with | (i, x) => (i, ev n Γ ρ x)).toList = pv := by rw [← hp]; simp
    simp only [execOp, Instr.buildSlice, Sem.run_bind, run_underlying hu, Result.andThen_ok, Go.sizeOf, typeInfo, run_program, hi1, Sem.run_pure, hi3]
    rw [if_neg (by omega), if_neg (by omega)]
    simp only [Sem.run_bind, zeroValue, typeInfo, run_program, hi1, Sem.run_pure, hi2, Result.andThen_ok, hpv]
    rw [hzz, hf]
    simp [newRow, MObj.toObj]
  constructor
  simp only [Oper.wp, eval_act, hrun, Oper.upon_value, put_act]
  exact hk _ _ (hs.alloc _) (Nat.le_refl _)

instance (priority := low) InL.appl {b : Nat} {o : MObj} {A L : List (Nat × MObj)} [h : InL b o A] : InL b o (A ++ L) := ⟨List.mem_append_left _ h.mem⟩

theorem inl_blk {s : OS} {g : Nat} (h : s.a = some g) (xs : List Value) (e : TypeId) : InL g (.cells (xs ++ s.sp) e) (s.blk xs e) := ⟨by simp [OS.blk, h]⟩

abbrev I64 (n : Int) : Value := .int .i64 n

theorem own_int {s : OS} {ns : List Int} {i len : Nat} (hok : s.ok (ns.map I64) len 1) (hi : i < len) :
    ∃ g, s.a = some g ∧ s.ad = some ⟨g, 0, none⟩ ∧ (ns.map I64 ++ s.sp)[0 + (i : Int).toNat * 1]? = some (I64 (ns.getD i 0)) := by
  have hl := hok.len_
  simp only [List.length_map, Nat.mul_one] at hl
  cases ha : s.a with
  | none => have := hok.nil_ ha; omega
  | some g =>
    refine ⟨g, rfl, by simp [OS.ad, ha], ?_⟩
    simp [List.getElem?_append, hl, hi]

theorem y_indexS {a : Option Addr} {b o n c e sz : Nat} {j : Int} {k : IntKind} {i : Operand} {ρ : Operand → Value} [SliceT P t e sz] (hx : ρ x = .slice a n c) (hi : ρ i = .int k j) (h0 : 0 ≤ j) (h1 : j < n) (ha : a = some ⟨b, o, none⟩) :
    Yld P ρ (.indexAddr t x i) ty w (.pointer (some ⟨b, o + j.toNat * sz, none⟩)) := by
  subst ha
  exact y_index hx hi h0 h1

theorem y_indexT {a : Option Addr} {b o off n c e sz : Nat} {j : Int} {k : IntKind} {i : Operand} {ρ : Operand → Value} [SliceT P t e sz] (hx : ρ x = .slice a n c) (hi : ρ i = .int k j) (h0 : 0 ≤ j) (h1 : j < n) (ha : a = some ⟨b, o, none⟩) (ho : o + j.toNat * sz = off) :
    Yld P ρ (.indexAddr t x i) ty w (.pointer (some ⟨b, off, none⟩)) := by
  subst ha ho
  exact y_index hx hi h0 h1

theorem St.cellAt {c : Nat} (hs : St W0 w L) [hi : InL b (.cells cs e) L] (h : cs[c]? = some v) : w.cell? ⟨b, c, none⟩ = some v := by rw [hs.cell hi.mem]; exact h

theorem upd_blk {s : OS} {g : Nat} (h : s.a = some g) {xs xs' cs : List Value} (hc : cs = xs' ++ s.sp) : Upd g (.cells cs e) (s.blk xs e) (s.blk xs' e) := by
  subst hc
  exact ⟨[], [], .cells (xs ++ s.sp) e, by simp [OS.blk, h], by simp [OS.blk, h]⟩
instance (priority := low) Upd.appl {b : Nat} {o : MObj} {A A' L : List (Nat × MObj)} [h : Upd b o A A'] : Upd b o (A ++ L) (A' ++ L) := by
  obtain ⟨pre, suf, o0, rfl, rfl⟩ := h.at_
  exact ⟨pre, suf ++ L, o0, by simp, by simp⟩

theorem w_slice0 {sz : Nat} (hs : St W0 w L) [hT : SliceT P t e sz] (hk : ∀ b w', St W0 w' ((b, .cells [] e) :: L) → w.heap.size ≤ b → K (act n ((d, .slice (some ⟨b, 0, none⟩) 0 0) :: Γ) ρ ds) w') :
    OW P ⟨some d, .buildSlice t 0 #[], ty, pos, after, g⟩ (act n Γ ρ ds) w K Q := by
  have hTo := hT.out
  unfold sliceElem at hTo
  split at hTo
  · rename_i e' hu
    cases hinf : P.info? e' with
    | none => simp [hinf] at hTo
    | some i =>
      simp only [hinf, Option.map_some, Option.some.injEq, Prod.mk.injEq] at hTo
      obtain ⟨rfl, _⟩ := hTo
      have hrun : (execOp (ev n Γ ρ) ⟨some d, .buildSlice t 0 #[], ty, pos, after, g⟩).run P w = .ok (.value (.slice (some ⟨w.heap.size, 0, none⟩) 0 0)) (w.alloc (MObj.cells [] e').toObj) := by
        simp [execOp, Instr.buildSlice, run_underlying hu, Go.sizeOf, typeInfo, hinf, Instr.fill, newRow, MObj.toObj]
        congr 2
        apply Array.ext'
        simp
      constructor
      simp only [Oper.wp, eval_act, hrun, Oper.upon_value, put_act]
      exact hk _ _ (hs.alloc _) (Nat.le_refl _)
  · cases hTo

theorem y_eqnil_slice {a : Option Addr} {m c : Nat} {s : TypeId} {ρ : Operand → Value} {e : TypeId} [hu : Under P t (.slice e)] (hx : ρ x = .slice a m c) (hy : ρ y = .slice none 0 0) : Yld P ρ (.binOp .eql t x y s) ty w (.bool a.isNone) := by
  constructor; intro _ _ _ _
  have h0 : ∀ d, (Op.equalIn (d + 1) t (.slice a m c) (.slice none 0 0)).run P w = .ok a.isNone w := by
    intro d; cases a <;> simp [Op.equalIn, run_underlying hu.out]
  have he : (Op.equalIn 10000 t (.slice a m c) (.slice none 0 0)).run P w = .ok a.isNone w := h0 9999
  simp [execOp, eqGuard, hx, hy, binOp, Op.equal, Op.maxDepth, he]

theorem y_ptr_eql {a b : Option Addr} {s : TypeId} {ρ : Operand → Value} {e : TypeId} [hu : Under P t (.pointer e)] (hx : ρ x = .pointer a) (hy : ρ y = .pointer none) (hb : b = a) : Yld P ρ (.binOp .eql t x y s) ty w (.bool b.isNone) := by
  subst hb
  constructor; intro _ _ _ _
  have h0 : ∀ d, (Op.equalIn (d + 1) t (.pointer b) (.pointer none)).run P w = .ok b.isNone w := by
    intro d; cases b <;> simp [Op.equalIn, run_underlying hu.out]
  have he : (Op.equalIn 10000 t (.pointer b) (.pointer none)).run P w = .ok b.isNone w := h0 9999
  simp [execOp, eqGuard, hx, hy, binOp, Op.equal, Op.maxDepth, he]
theorem y_ptr_nn {a : Addr} {s : TypeId} {ρ : Operand → Value} {e : TypeId} [Under P t (.pointer e)] (hx : ρ x = .pointer (some a)) (hy : ρ y = .pointer none) : Yld P ρ (.binOp .eql t x y s) ty w (.bool false) := y_ptr_eql hx hy rfl

theorem bytes_beq (a b : ByteArray) : (a.toList == b.toList) = decide (a = b) := by
  rw [ByteArray.toList_eq, ByteArray.toList_eq]
  by_cases h : a = b
  · subst h; simp
  · have : a.data.toList ≠ b.data.toList := by
      intro e
      apply h
      obtain ⟨⟨a⟩⟩ := a
      obtain ⟨⟨b⟩⟩ := b
      simp only at e
      rw [e]
    have h3 : ¬ a.data = b.data := fun e => this (by rw [e])
    simp [h, h3]
theorem y_str_eq {a b : ByteArray} {r : Bool} {s : TypeId} {ρ : Operand → Value} (hx : ρ x = .string a) (hy : ρ y = .string b) (h : decide (a = b) = r) : Yld P ρ (.binOp .eql t x y s) ty w (.bool r) := by
  constructor; intro _ _ _ _
  subst h
  have h1 := bytes_beq a b
  simp only [execOp, hx, hy, eqGuard, binOp, Op.stringOp, h1]
  rfl
theorem y_str_ne {a b : ByteArray} {r : Bool} {s : TypeId} {ρ : Operand → Value} (hx : ρ x = .string a) (hy : ρ y = .string b) (h : decide (a ≠ b) = r) : Yld P ρ (.binOp .neq t x y s) ty w (.bool r) := by
  constructor; intro _ _ _ _
  subst h
  have h1 : (!(a.toList == b.toList)) = decide (a ≠ b) := by rw [bytes_beq]; simp
  simp only [execOp, hx, hy, eqGuard, binOp, Op.stringOp, h1]
  rfl

/-- x[j:] of a slice. -/
theorem y_slice_lo {b o m c e sz : Nat} {j : Int} {k : IntKind} {lo : Operand} {ρ : Operand → Value} [hT : SliceT P t e sz] (hx : ρ x = .slice (some ⟨b, o, none⟩) m c) (hi : ρ lo = .int k j) (h0 : 0 ≤ j) (h1 : j ≤ m) :
    Yld P ρ (.slice t x (some lo) none none) ty w (.slice (some ⟨b, if c = j.toNat then o else o + j.toNat * sz, none⟩) (m - j.toNat) (c - j.toNat)) := by
  constructor; intro _ _ _ _
  have hTo := hT.out
  unfold sliceElem at hTo
  split at hTo
  · rename_i e' hu
    cases hinf : P.info? e' with
    | none => simp [hinf] at hTo
    | some i =>
      simp only [hinf, Option.map_some, Option.some.injEq, Prod.mk.injEq] at hTo
      obtain ⟨rfl, rfl⟩ := hTo
      simp only [execOp, Option.map_some, Option.map_none, hx, hi, Instr.sliceAt, Sem.run_bind, run_underlying hu, Result.andThen_ok, Instr.slice, Instr.sliceBounds, Sem.run_pure, Instr.sliceBound, asIntOf, h0, h1, and_self, if_true, Go.sizeOf, typeInfo, run_program, hinf]
      split <;> simp [addr_add]
  · cases hTo
end
end PB
set_option linter.unusedSimpArgs false
set_option linter.unusedVariables false

/-! ## make, and strings of fresh bytes -/
namespace PB
open Go Go.RowKit

section
variable {W0 w : World} {L L' : List (Nat × MObj)} {P : Program} {e t ty : TypeId}
variable {Q : Exit → Act → World → Prop} {K : Act → World → Prop} {n : Nat} {Γ : Fr} {ρ : Nat → Value} {ds : List Deferred} {pos : String} {after : Array Edge} {g : Option (Nat × Bool)} {d : Nat} {x y : Operand} {v : Value}

theorem w_makeSlice {z : Value} {sz bs m : Nat} (hs : St W0 w L) [hT : SliceT P t e sz] [hI : TInfo P e (some z) sz bs] (hx : ev n Γ ρ x = .int .i64 m) (hy : ev n Γ ρ y = .int .i64 m) (hm : m * bs ≤ 2 ^ 40) (hm2 : m ≤ 2 ^ 40)
    (hk : ∀ b w', St W0 w' ((b, .cells (zerosL z (m * sz)) e) :: L) → w.heap.size ≤ b → K (act n ((d, .slice (some ⟨b, 0, none⟩) m m) :: Γ) ρ ds) w') :
    OW P ⟨some d, .makeSlice t x y, ty, pos, after, g⟩ (act n Γ ρ ds) w K Q := by
  obtain ⟨inf, hi1, hi2, hi3, hi4⟩ := tinfo_some hI.out
  have hTo := hT.out
  unfold sliceElem at hTo
  have hu : P.underlying t = some (.slice e) := by
    split at hTo
    · rename_i e' hu
      cases hinf : P.info? e' with
      | none => simp [hinf] at hTo
      | some i => simp [hinf] at hTo; rw [hu, hTo.1]
    · cases hTo
  have wl : IntKind.i64.wrap (m : Int) = m := by rw [IntKind.wrap_i64]; omega
  have n1 : ¬ (m : Int) < 0 := by omega
  have n2 : ¬ ((2 : Int) ^ 48 < (inf.bytes : Int) * m) := by
    rw [hi4]
    have : ((m * bs : Nat) : Int) = (bs : Int) * m := by rw [Int.natCast_mul, Int.mul_comm]
    omega
  have n2' : ¬ (281474976710656 < (inf.bytes : Int) * m) := by omega
  have hrun : (execOp (ev n Γ ρ) ⟨some d, .makeSlice t x y, ty, pos, after, g⟩).run P w = .ok (.value (.slice (some ⟨w.heap.size, 0, none⟩) m m)) (w.alloc (MObj.cells (zerosL z (m * sz)) e).toObj) := by
    simp [execOp, hx, hy, Instr.makeSlice, run_underlying hu, typeInfo, hi1, asInt, asIntOf, wl, n1, n2', run_askRoom, Go.sizeOf, hi3]
    by_cases hz : m * sz = 0
    · rw [if_pos hz]
      simp [hz, newRow, MObj.toObj, zerosL]
      congr 2
      apply Array.ext'
      simp
    · rw [if_neg hz]
      simp [zeroValue, typeInfo, hi1, hi2, newRow, MObj.toObj]
      congr 2
      apply Array.ext'
      simp [zerosL]
  constructor
  simp only [Oper.wp, eval_act, hrun, Oper.upon_value, put_act]
  exact hk _ _ (hs.alloc _) (Nat.le_refl _)

theorem w_makeSliceI {z : Value} {sz bs : Nat} {j : Int} (hs : St W0 w L) [hT : SliceT P t e sz] [hI : TInfo P e (some z) sz bs] (hx : ev n Γ ρ x = .int .i64 j) (hy : ev n Γ ρ y = .int .i64 j) (hj : 0 ≤ j) (hm : j.toNat * bs ≤ 2 ^ 40) (hm2 : j ≤ 2 ^ 40)
    (hk : ∀ b w', St W0 w' ((b, .cells (zerosL z (j.toNat * sz)) e) :: L) → w.heap.size ≤ b → K (act n ((d, .slice (some ⟨b, 0, none⟩) j.toNat j.toNat) :: Γ) ρ ds) w') :
    OW P ⟨some d, .makeSlice t x y, ty, pos, after, g⟩ (act n Γ ρ ds) w K Q := by
  have h : j = (j.toNat : Int) := by omega
  rw [h] at hx hy
  exact w_makeSlice hs hx hy hm (by omega) hk

theorem zerosL_one {z : Value} (h : z.cells = #[z]) (m : Nat) : zerosL z m = List.replicate m z := by
  unfold zerosL
  rw [h]
  apply List.ext_getElem
  · simp
  · intro i h1 h2
    simp [Nat.mod_one]

/-- m bytes of 0. -/
def zstr (m : Nat) : ByteArray := ⟨(List.replicate m 0).toArray⟩
theorem zstr_size (m : Nat) : (zstr m).size = m := by simp [zstr, ByteArray.size]

theorem run_bytesLoop (f : Value → ByteArray → Sem (ForInStep ByteArray)) (hf : ∀ s w, (f (.int .u8 0) s).run P w = .ok (.yield (s.push 0)) w) : ∀ (m : Nat) (s : ByteArray), (forIn (List.replicate m (Value.int .u8 0)) s f).run P w = .ok ⟨(s.data.toList ++ List.replicate m 0).toArray⟩ w
  | 0, s => by simp
  | m + 1, s => by
    rw [List.replicate_succ, List.forIn_cons]
    simp only [Sem.run_bind, hf, Result.andThen_ok]
    rw [run_bytesLoop f hf m]
    congr 2
    simp [ByteArray.push, List.replicate_succ]

theorem y_b2z {b m c : Nat} {ρ : Operand → Value} {src dst es : TypeId} {cs : List Value} (hs : St W0 w L) (hx : ρ x = .slice (some ⟨b, 0, none⟩) m c) [hu : Under P src (.slice es)] [hd : Under P dst .string] [he : Under P es (.int .u8)] [hi : InL b (.cells cs e) L] (hc : cs = zerosL (.int .u8 0) (m * 1)) :
    Yld P ρ (.convert src dst x) ty w (.string (zstr m)) := by
  constructor; intro _ _ _ _
  rw [Nat.mul_one, zerosL_one rfl] at hc
  subst hc
  have hl := run_loadCells (P := P) (w := w) (b := b) (o := 0) (n := m) (cs := List.replicate m (.int .u8 0)) (fun i => hs.cell (off := i) hi.mem) (by simp)
  simp only [execOp, convert, Sem.run_bind, run_underlying hu.out, run_underlying hd.out, Result.andThen_ok, hx, run_underlying he.out, Conv.bytesToString, hl]
  rw [show List.take m (List.drop 0 (List.replicate m (Value.int IntKind.u8 0))) = List.replicate m (Value.int IntKind.u8 0) by simp, List.forIn_toArray, run_bytesLoop _ (fun s w => by simp) m]
  simp [zstr]
end
end PB
namespace PB
open Go Go.RowKit
section
variable {W0 w : World} {L : List (Nat × MObj)} {P : Program} {e t ty : TypeId} {x : Operand}
theorem addr_zero (a : Addr) : a.add 0 = a := by
  obtain ⟨b, o, p⟩ := a
  unfold Addr.add
  cases p <;> simp

/-- x[:j] of a slice. -/
theorem y_slice_hi {a : Option Addr} {m c sz : Nat} {j : Int} {k : IntKind} {hi : Operand} {ρ : Operand → Value} [hT : SliceT P t e sz] (hx : ρ x = .slice a m c) (hi' : ρ hi = .int k j) (h0 : 0 ≤ j) (h1 : j ≤ c) :
    Yld P ρ (.slice t x none (some hi) none) ty w (.slice a j.toNat c) := by
  constructor; intro _ _ _ _
  have hTo := hT.out
  unfold sliceElem at hTo
  split at hTo
  · rename_i e' hu
    cases hinf : P.info? e' with
    | none => simp [hinf] at hTo
    | some i =>
      simp only [hinf, Option.map_some, Option.some.injEq, Prod.mk.injEq] at hTo
      obtain ⟨rfl, rfl⟩ := hTo
      simp only [execOp, Option.map_some, Option.map_none, hx, hi', Instr.sliceAt, Sem.run_bind, run_underlying hu, Result.andThen_ok, Instr.slice, Instr.sliceBounds, Sem.run_pure, Instr.sliceBound, asIntOf, h0, h1, and_self, if_true, Go.sizeOf, typeInfo, run_program, hinf]
      have : a.map (·.add 0) = a := by cases a <;> simp [addr_zero]
      simp [this]
  · cases hTo

/-- s[:j] of a string. -/
theorem y_str_hi {s : ByteArray} {j : Int} {k : IntKind} {hi : Operand} {ρ : Operand → Value} [hT : Under P t .string] (hx : ρ x = .string s) (hi' : ρ hi = .int k j) (h0 : 0 ≤ j) (h1 : j ≤ s.size) :
    Yld P ρ (.slice t x none (some hi) none) ty w (.string (s.extract 0 j.toNat)) := by
  constructor; intro _ _ _ _
  simp only [execOp, Option.map_some, Option.map_none, hx, hi', Instr.sliceAt, Sem.run_bind, run_underlying hT.out, Result.andThen_ok, Instr.slice, Instr.sliceBounds, Sem.run_pure, Instr.sliceBound, asIntOf, h0, h1, and_self, if_true]
  simp [h0, Int.not_lt.2 h1]
end
end PB

/-! ## Own slices that begin behind their block's start -/
namespace PB
open Go Go.RowKit

/-- A slice of the call's own that may begin behind dead cells. -/
structure OT where
  a : Option Nat
  pre : List Value
  cap : Nat
  sp : List Value

def OT.nl : OT := ⟨none, [], 0, []⟩
def OT.ad (s : OT) : Option Addr := s.a.map fun g => ⟨g, s.pre.length, none⟩
def OT.blk (s : OT) (xs : List Value) (e : TypeId) : List (Nat × MObj) := match s.a with | none => [] | some g => [(g, .cells (s.pre ++ (xs ++ s.sp)) e)]
structure OT.ok (s : OT) (xs : List Value) (len sz : Nat) : Prop where
  len_ : xs.length = len * sz
  sp_ : (s.cap - len) * sz ≤ s.sp.length
  cap_ : len ≤ s.cap
  nil_ : s.a = none → len = 0 ∧ s.cap = 0
theorem OT.ok_nl (sz : Nat) : OT.nl.ok [] 0 sz := ⟨by simp, by simp [OT.nl], Nat.le_refl _, fun _ => ⟨rfl, rfl⟩⟩

section
variable {W0 w : World} {L L' A R : List (Nat × MObj)} {b off : Nat} {cs vs : List Value} {e : TypeId} {o : MObj} {P : Program}

theorem run_appendT {s : OT} {xs ys zs : List Value} {len m c sz bs bx ox : Nat} {t t2 e2 ty : TypeId} {z : Value} (hs : St W0 w (A ++ (s.blk xs e ++ R))) (hok : s.ok xs len sz) (hT : SliceT P t e sz) (hI : TInfo P e (some z) sz bs)
    (hz : z.cells.size = sz) (hT2 : Under P t2 (.slice e2)) (hin : (bx, .cells zs e2) ∈ A ++ (s.blk xs e ++ R)) (hl : ox + m * sz ≤ zs.length) (hy : (zs.drop ox).take (m * sz) = ys) (hone : ys.all oneB = true) (hm : 0 < m ∨ s.a ≠ none) (hb : 0 < bs)
    (hroom : (2 * (len + m) + 1000) * bs ≤ 2 ^ 48) :
    ∃ (s' : OT) (w' : World), (Builtin.append_ #[t, t2] ty #[.slice s.ad len s.cap, .slice (some ⟨bx, ox, none⟩) m c]).run P w = .ok (.slice s'.ad (len + m) s'.cap) w' ∧ s'.ok (xs ++ ys) (len + m) sz ∧ (∃ g, s'.a = some g) ∧ St W0 w' (A ++ (s'.blk (xs ++ ys) e ++ R)) := by
  obtain ⟨inf, hi1, hi2, hi3, hi4⟩ := tinfo_some hI.out
  have hTo := hT.out
  unfold sliceElem at hTo
  have hu : P.underlying t = some (.slice e) := by
    split at hTo
    · rename_i e' hu
      cases hinf : P.info? e' with
      | none => simp [hinf] at hTo
      | some i => simp [hinf] at hTo; rw [hu, hTo.1]
    · cases hTo
  have hu2 := hT2.out
  have hylen : ys.length = m * sz := by rw [← hy]; simp; omega
  have hfirst := run_firstCells (P := P) (k := sz) (o := ox) (m := m) (c := c) hs hin hl
  rw [hy] at hfirst
  by_cases hfit : len + m ≤ s.cap
  · cases ha : s.a with
    | none =>
      have := hok.nil_ ha
      rcases hm with hm | hm
      · omega
      · exact absurd ha hm
    | some g =>
      have hblk : s.blk xs e = [(g, .cells (s.pre ++ (xs ++ s.sp)) e)] := by simp [OT.blk, ha]
      have hsp : m * sz ≤ s.sp.length := Nat.le_trans (Nat.mul_le_mul_right _ (by omega)) hok.sp_
      have hcs : setRange (s.pre ++ (xs ++ s.sp)) ((s.pre.length + len * sz) + 0) ys = s.pre ++ (xs ++ (ys ++ s.sp.drop ys.length)) := by
        have h := setRange_append ys (s.pre ++ xs) s.sp (by omega)
        rw [List.length_append, hok.len_] at h
        rw [Nat.add_zero, ← List.append_assoc, h, List.append_assoc]
      rw [hblk] at hs hin
      have hmem : (g, MObj.cells (s.pre ++ (xs ++ s.sp)) e) ∈ A ++ ([(g, MObj.cells (s.pre ++ (xs ++ s.sp)) e)] ++ R) := by simp
      obtain ⟨w', hr, hs', _⟩ := st_storeCells (P := P) (W0 := W0) (b := g) (off := s.pre.length + len * sz) (e := e) ys 0 w _ (A ++ ([(g, MObj.cells (setRange (s.pre ++ (xs ++ s.sp)) ((s.pre.length + len * sz) + 0) ys) e)] ++ R)) (s.pre ++ (xs ++ s.sp)) hone hs hmem ⟨A, R, _, by simp; rfl, by simp⟩ (by simp [hok.len_]; omega)
      refine ⟨⟨some g, s.pre, s.cap, s.sp.drop ys.length⟩, w', ?_, ⟨by simp [hok.len_, hylen, Nat.add_mul], ?_, hfit, fun h => by cases h⟩, ⟨g, rfl⟩, ?_⟩
      · simp only [Builtin.append_, List.getElem?_toArray, List.getElem?_cons_zero, List.getElem?_cons_succ, Sem.run_bind, run_underlying hu, Result.andThen_ok, OT.ad, ha, Option.map_some, Go.sizeOf, typeInfo, run_program, hi1, Sem.run_pure, hi3,
          run_underlying hu2, Builtin.lenOf, Bool.false_eq_true, if_false, hfit, if_true, Bool.not_false, hfirst, addr_add]
        simp only [Result.andThen_ok, hr]
      · have h := hok.sp_
        simp only [List.length_drop, hylen]
        have e1 : (s.cap - (len + m)) * sz = (s.cap - len) * sz - m * sz := by rw [← Nat.sub_mul]; congr 1; omega
        rw [e1]; omega
      · rw [hcs] at hs'
        simpa [OT.blk] using hs'
  · have hnc := nextslicecap_le (len + m) s.cap (by omega)
    have hnc2 : ¬ (Builtin.nextslicecap (len + m) s.cap * inf.bytes > 2 ^ 48) := by
      rw [hi4]
      have := Nat.mul_le_mul_right bs hnc
      omega
    have hold : ∀ w1, St W0 w1 (A ++ (s.blk xs e ++ R)) → (Builtin.firstCells sz len (.slice s.ad len s.cap)).run P w1 = .ok xs.toArray w1 := by
      intro w1 hs1
      cases ha : s.a with
      | none =>
        have := hok.nil_ ha
        have hx : xs = [] := List.length_eq_zero_iff.1 (by rw [hok.len_, this.1]; simp)
        simp [OT.ad, ha, Builtin.firstCells, hx]
      | some g =>
        have hmem : (g, MObj.cells (s.pre ++ (xs ++ s.sp)) e) ∈ A ++ (s.blk xs e ++ R) := by simp [OT.blk, ha]
        have := run_firstCells (P := P) (k := sz) (o := s.pre.length) (m := len) (c := s.cap) hs1 hmem (by simp [hok.len_])
        simp only [OT.ad, ha, Option.map_some]
        rw [this]
        simp [← hok.len_]
    have hbig : ¬ (((len + m : Nat) : Int) > IntKind.i64.max ∧ (False ∨ inf.bytes = 0)) := by
      rintro ⟨_, h | h⟩
      · exact h
      · rw [hi4] at h; omega
    let T := (Question.appendCap (len + m) s.cap e).cut (w.tape w.drawn (.appendCap (len + m) s.cap e))
    have hT : len + m ≤ T := by simp only [T, Question.cut]; omega
    let rest := (Builtin.zeroCells z.cells (T - (len + m))).toList
    refine ⟨⟨some w.heap.size, [], T, rest⟩, w.drew.alloc (MObj.cells (xs ++ ys ++ rest) e).toObj, ?_, ⟨by simp [hok.len_, hylen, Nat.add_mul], ?_, hT, fun h => by cases h⟩, ⟨_, rfl⟩, ?_⟩
    · have hd := hs.drew
      have hf2 := run_firstCells (P := P) (k := sz) (o := ox) (m := m) (c := c) hd hin hl
      rw [hy] at hf2
      have ho2 := hold _ hd
      have hch : (choose (.appendCap (len + m) s.cap e)).run P w = .ok T w.drew := by
        rw [run_choose]; simp [Question.forced, T]
      simp only [Builtin.append_, List.getElem?_toArray, List.getElem?_cons_zero, List.getElem?_cons_succ, Sem.run_bind, run_underlying hu, Result.andThen_ok, Go.sizeOf, typeInfo, run_program, hi1, Sem.run_pure, hi3,
          run_underlying hu2, Builtin.lenOf, Bool.false_eq_true, if_false, hfit, hbig, hnc2, hch, run_askRoom, ho2, hf2, Bool.not_false, if_true, zeroValue, hi2, newRow, run_newObj]
      simp [OT.ad, MObj.toObj, rest]
      show w.drew.alloc _ = w.drew.alloc _
      congr 2
      apply Array.ext'
      simp
    · simp only [rest, length_zeroCells, hz]; exact Nat.le_refl _
    · have h1 := (hs.drew).alloc (.cells (xs ++ ys ++ rest) e)
      have h2 : St W0 (w.drew.alloc (MObj.cells (xs ++ ys ++ rest) e).toObj) (A ++ ((w.heap.size, MObj.cells (xs ++ ys ++ rest) e) :: (s.blk xs e ++ R))) := h1.perm List.perm_middle.symm
      have h3 := h2.sub (L' := A ++ ((w.heap.size, MObj.cells (xs ++ ys ++ rest) e) :: R)) (List.Sublist.append_left (List.Sublist.cons_cons _ (List.sublist_append_right ..)) A)
      simpa [OT.blk] using h3

variable {Q : Exit → Act → World → Prop} {K : Act → World → Prop} {n : Nat} {Γ : Fr} {ρ : Nat → Value} {ds : List Deferred} {ty t : TypeId} {pos : String} {after : Array Edge} {g : Option (Nat × Bool)} {d : Nat} {x y : Operand} {v : Value}

theorem w_appendT {s : OT} {xs ys zs : List Value} {len m c sz bs bx ox : Nat} {t2 e2 : TypeId} {z : Value} (A : List (Nat × MObj)) (hs : St W0 w (A ++ (s.blk xs e ++ R))) (hok : s.ok xs len sz) [hT : SliceT P t e sz] [hI : TInfo P e (some z) sz bs] [hT2 : Under P t2 (.slice e2)]
    (hx : ev n Γ ρ x = .slice s.ad len s.cap) (hy : ev n Γ ρ y = .slice (some ⟨bx, ox, none⟩) m c) [hin : InL bx (.cells zs e2) (A ++ (s.blk xs e ++ R))] (hz : z.cells.size = sz) (hl : Nat.ble (ox + m * sz) zs.length = true) (hys : (zs.drop ox).take (m * sz) = ys) (hone : ys.all oneB = true)
    (hm : 0 < m ∨ s.a ≠ none) (hb : 0 < bs) (hroom : (2 * (len + m) + 1000) * bs ≤ 2 ^ 48)
    (hk : ∀ (s' : OT) w', s'.ok (xs ++ ys) (len + m) sz → (∃ g, s'.a = some g) → St W0 w' (A ++ (s'.blk (xs ++ ys) e ++ R)) → K (act n ((d, .slice s'.ad (len + m) s'.cap) :: Γ) ρ ds) w') :
    OW P ⟨some d, .call ⟨.builtin .append, #[x, y], #[t, t2]⟩, ty, pos, after, g⟩ (act n Γ ρ ds) w K Q := by
  obtain ⟨s', w', hr, hok', hg, hs'⟩ := run_appendT (P := P) (ty := ty) (c := c) hs hok hT hI hz hT2 hin.mem (Nat.le_of_ble_eq_true hl) hys hone hm hb hroom
  constructor
  have hrun : (execOp (ev n Γ ρ) ⟨some d, .call ⟨.builtin .append, #[x, y], #[t, t2]⟩, ty, pos, after, g⟩).run P w = .ok (.value (.slice s'.ad (len + m) s'.cap)) w' := by
    simp [execOp, resolve, invoke, builtin, hx, hy, hr]
  simp only [Oper.wp, eval_act, hrun, Oper.upon_value, put_act]
  exact hk s' w' hok' hg hs'

theorem inl_blkT {s : OT} {g : Nat} (h : s.a = some g) (xs : List Value) (e : TypeId) : InL g (.cells (s.pre ++ (xs ++ s.sp)) e) (s.blk xs e) := ⟨by simp [OT.blk, h]⟩

/-- The rest of the slice behind its first element. -/
def OT.tl (s : OT) (x : Value) : OT := if s.cap = 1 then ⟨s.a, s.pre, 0, x :: s.sp⟩ else ⟨s.a, s.pre ++ [x], s.cap - 1, s.sp⟩
theorem OT.tl_blk (s : OT) (x : Value) (xs : List Value) (h : s.cap = 1 → xs = []) (e : TypeId) : (s.tl x).blk xs e = s.blk (x :: xs) e := by
  unfold OT.tl
  split
  · rename_i hc
    have := h hc
    subst this
    simp [OT.blk]
  · simp [OT.blk]
theorem OT.tl_ok {s : OT} {x : Value} {xs : List Value} {len : Nat} (h : s.ok (x :: xs) (len + 1) 1) : (s.tl x).ok xs len 1 := by
  have h1 := h.len_
  have h2 := h.sp_
  have h3 := h.cap_
  simp only [List.length_cons, Nat.mul_one] at h1 h2
  unfold OT.tl
  split
  · rename_i hc
    exact ⟨by omega, by simp <;> omega, by simp <;> omega, fun hn => by have := h.nil_ hn; omega⟩
  · exact ⟨by omega, by simp <;> omega, by simp <;> omega, fun hn => by have := h.nil_ hn; omega⟩

theorem y_sliceT {s : OT} {lo : Operand} {m : Nat} {x0 : Value} {ρ : Operand → Value} {k : IntKind} [hT : SliceT P t e 1] (hx : ρ x = .slice s.ad (m + 1) s.cap) (hi : ρ lo = .int k 1) (ha : ∃ g, s.a = some g) : Yld P ρ (.slice t x (some lo) none none) ty w (.slice (s.tl x0).ad m (s.tl x0).cap) := by
  obtain ⟨g, ha⟩ := ha
  have had : s.ad = some ⟨g, s.pre.length, none⟩ := by simp [OT.ad, ha]
  rw [had] at hx
  have h := y_slice_lo (P := P) (w := w) (ty := ty) (t := t) (sz := 1) hx hi (by decide) (by omega)
  have e : (Value.slice (some ⟨g, if s.cap = (1 : Int).toNat then s.pre.length else s.pre.length + (1 : Int).toNat * 1, none⟩) (m + 1 - (1 : Int).toNat) (s.cap - (1 : Int).toNat)) = .slice (s.tl x0).ad m (s.tl x0).cap := by
    have : (1 : Int).toNat = 1 := rfl
    rw [this]
    unfold OT.tl
    split <;> simp [OT.ad, ha, *]
  rw [e] at h
  exact h

theorem y_bool_neq {a b : Bool} {s : TypeId} {ρ : Operand → Value} [hu : Under P t .bool] (hx : ρ x = .bool a) (hy : ρ y = .bool b) (hv : v = .bool (a != b)) : Yld P ρ (.binOp .neq t x y s) ty w v := by
  subst hv
  constructor; intro _ _ _ _
  have h0 : ∀ d, (Op.equalIn (d + 1) t (.bool a) (.bool b)).run P w = .ok (a == b) w := by
    intro d; simp [Op.equalIn, run_underlying hu.out]
  have he : (Op.equalIn 10000 t (.bool a) (.bool b)).run P w = .ok (a == b) w := h0 9999
  simp [execOp, eqGuard, hx, hy, binOp, Op.equal, Op.maxDepth, he]
  cases a <;> cases b <;> rfl
theorem y_bool_eql {a b : Bool} {s : TypeId} {ρ : Operand → Value} [hu : Under P t .bool] (hx : ρ x = .bool a) (hy : ρ y = .bool b) (hv : v = .bool (a == b)) : Yld P ρ (.binOp .eql t x y s) ty w v := by
  subst hv
  constructor; intro _ _ _ _
  have h0 : ∀ d, (Op.equalIn (d + 1) t (.bool a) (.bool b)).run P w = .ok (a == b) w := by
    intro d; simp [Op.equalIn, run_underlying hu.out]
  have he : (Op.equalIn 10000 t (.bool a) (.bool b)).run P w = .ok (a == b) w := h0 9999
  simp [execOp, eqGuard, hx, hy, binOp, Op.equal, Op.maxDepth, he]

theorem y_mkfunc {fn : Fn} {caps : List Operand} {cv : List Value} {ρ : Operand → Value} (h : caps.map ρ = cv) : Yld P ρ (.makeFunc fn #[] caps.toArray) ty w (.func fn #[] cv.toArray) := by
  subst h
  constructor; intro _ _ _ _
  simp [execOp, Instr.makeFunc]

structure Strs (W0 : World) (a : Option Addr) (len : Nat) (zs : List ByteArray) : Prop where
  at_ : ∀ i, i < len → ∃ x, a = some x ∧ W0.cell? (x.add i) = some (.string (zs.getD i ByteArray.empty))
end
end PB

/-! ## Shifts and masks -/
namespace PB
open Go Go.RowKit
section
variable {P : Program} {w : World} {ρ : Operand → Value} {ty t s : TypeId} {x y : Operand} {v : Value}

theorem y_toInt {op : Op} {k : IntKind} {a b : Int} (h : Yld P ρ op ty w (.int k a)) (e : a = b) : Yld P ρ op ty w (.int k b) := e ▸ h

theorem y_shl {k k2 : IntKind} {a n : Int} (hx : ρ x = .int k a) (hy : ρ y = .int k2 n) (h0 : 0 ≤ n) (hv : v = .int k (k.wrap (a * 2 ^ (min n.toNat k.bits)))) : Yld P ρ (.binOp .shl t x y s) ty w v := by
  subst hv
  constructor; intro _ _ _ _
  simp [execOp, eqGuard, binOp, hx, hy, Op.shift, Int.not_lt.2 h0]
/-- 1 << n. -/
theorem y_shl1 {n : Int} {m : Nat} (hx : ρ x = .int .i64 1) (hy : ρ y = .int .i64 n) (hn : n = m) (hm : m ≤ 62) : Yld P ρ (.binOp .shl t x y s) ty w (.int .i64 (2 ^ m)) := by
  subst hn
  refine y_shl hx hy (by omega) ?_
  have h1 : min (m : Int).toNat IntKind.i64.bits = m := by
    show min (m : Int).toNat 64 = m
    simp; omega
  rw [h1, Int.one_mul]
  have h2 : (2 : Int) ^ m ≤ 2 ^ 62 := by
    have : (2 : Nat) ^ m ≤ 2 ^ 62 := Nat.pow_le_pow_right (by decide) hm
    exact_mod_cast this
  have h3 : (0 : Int) < 2 ^ m := Int.pow_pos (by decide)
  congr 1
  rw [IntKind.wrap_i64]; omega

theorem y_conv_int {k k2 : IntKind} {n : Int} {src dst : TypeId} [hs : Under P src (.int k2)] [hd : Under P dst (.int k)] (hx : ρ x = .int k2 n) (hv : v = .int k (k.wrap n)) : Yld P ρ (.convert src dst x) ty w v := by
  subst hv
  constructor; intro _ _ _ _
  simp [execOp, convert, run_underlying hs.out, run_underlying hd.out, hx, Conv.intToInt]

def bAnd (a b : Int) : Int := IntKind.i64.wrap ((BitVec.ofInt 64 a &&& BitVec.ofInt 64 b).toNat : Int)
theorem y_and {a b : Int} (hx : ρ x = .int .i64 a) (hy : ρ y = .int .i64 b) : Yld P ρ (.binOp .and t x y s) ty w (.int .i64 (bAnd a b)) := by
  constructor; intro _ _ _ _
  simp [execOp, eqGuard, binOp, hx, hy, Op.intBits]
  rfl
theorem bAnd_bd (a : Int) {b : Int} (h0 : 0 ≤ b) (h1 : b < 9223372036854775808) : 0 ≤ bAnd a b ∧ bAnd a b ≤ b := by
  have hb : (BitVec.ofInt 64 b).toNat = b.toNat := by
    rw [BitVec.toNat_ofInt]
    have : b % ((2 ^ 64 : Nat) : Int) = b := Int.emod_eq_of_lt h0 (by omega)
    rw [this]
  have h2 : (BitVec.ofInt 64 a &&& BitVec.ofInt 64 b).toNat ≤ b.toNat := by
    rw [BitVec.toNat_and, hb]; exact Nat.and_le_right
  have h3 : bAnd a b = ((BitVec.ofInt 64 a &&& BitVec.ofInt 64 b).toNat : Int) := by
    unfold bAnd
    rw [IntKind.wrap_i64]; omega
  rw [h3]; omega
end
end PB
set_option linter.unusedSimpArgs false

/-! ## Bits -/
namespace PB
open Go Go.RowKit
section
variable {P : Program} {w W0 : World} {ρ : Operand → Value} {ty t s : TypeId} {x y : Operand} {v : Value} {L : List (Nat × MObj)}

theorem y_andk {k : IntKind} {a b : Int} (hx : ρ x = .int k a) (hy : ρ y = .int k b) (hv : v = .int k (k.wrap ((BitVec.ofInt k.bits a &&& BitVec.ofInt k.bits b).toNat : Int))) : Yld P ρ (.binOp .and t x y s) ty w v := by
  subst hv
  constructor; intro _ _ _ _
  simp [execOp, eqGuard, binOp, hx, hy, Op.intBits]
theorem y_ork {k : IntKind} {a b : Int} (hx : ρ x = .int k a) (hy : ρ y = .int k b) (hv : v = .int k (k.wrap ((BitVec.ofInt k.bits a ||| BitVec.ofInt k.bits b).toNat : Int))) : Yld P ρ (.binOp .or t x y s) ty w v := by
  subst hv
  constructor; intro _ _ _ _
  simp [execOp, eqGuard, binOp, hx, hy, Op.intBits]
theorem y_andnotk {k : IntKind} {a b : Int} (hx : ρ x = .int k a) (hy : ρ y = .int k b) (hv : v = .int k (k.wrap ((BitVec.ofInt k.bits a &&& ~~~ BitVec.ofInt k.bits b).toNat : Int))) : Yld P ρ (.binOp .andNot t x y s) ty w v := by
  subst hv
  constructor; intro _ _ _ _
  simp [execOp, eqGuard, binOp, hx, hy, Op.intBits]
theorem y_xork {k : IntKind} {a b : Int} (hx : ρ x = .int k a) (hy : ρ y = .int k b) (hv : v = .int k (k.wrap ((BitVec.ofInt k.bits a ^^^ BitVec.ofInt k.bits b).toNat : Int))) : Yld P ρ (.binOp .xor t x y s) ty w v := by
  subst hv
  constructor; intro _ _ _ _
  simp [execOp, eqGuard, binOp, hx, hy, Op.intBits]
theorem y_shr {k k2 : IntKind} {a n : Int} (hx : ρ x = .int k a) (hy : ρ y = .int k2 n) (h0 : 0 ≤ n) (hv : v = .int k (a.fdiv (2 ^ (min n.toNat k.bits)))) : Yld P ρ (.binOp .shr t x y s) ty w v := by
  subst hv
  constructor; intro _ _ _ _
  simp [execOp, eqGuard, binOp, hx, hy, Op.shift, Int.not_lt.2 h0]

theorem ofInt_nat (k a : Nat) : BitVec.ofInt k (a : Int) = BitVec.ofNat k a := by simp
theorem u32_toNat {a : Nat} (h : a < 4294967296) : (BitVec.ofInt 32 (a : Int)).toNat = a := by
  rw [ofInt_nat, BitVec.toNat_ofNat]; exact Nat.mod_eq_of_lt h
theorem i64_toNat {a : Nat} (h : a < 18446744073709551616) : (BitVec.ofInt 64 (a : Int)).toNat = a := by
  rw [ofInt_nat, BitVec.toNat_ofNat]; exact Nat.mod_eq_of_lt h

theorem wrap_u32n {a : Nat} (h : a < 4294967296) : IntKind.u32.wrap (a : Int) = a := by rw [IntKind.wrap_u32]; omega
theorem wrap_i64n {a : Nat} (h : a < 9223372036854775808) : IntKind.i64.wrap (a : Int) = a := by rw [IntKind.wrap_i64]; omega

/-- and, or, and-not of numbers of 32 bits; and, or of numbers that are not negative. -/
theorem y_and32 {a b : Nat} (hx : ρ x = .int .u32 a) (hy : ρ y = .int .u32 b) (ha : a < 4294967296) (hb : b < 4294967296) : Yld P ρ (.binOp .and t x y s) ty w (.int .u32 ((a &&& b : Nat) : Int)) := by
  refine y_andk hx hy ?_
  show _ = Value.int .u32 (IntKind.u32.wrap ((BitVec.ofInt 32 (a : Int) &&& BitVec.ofInt 32 (b : Int)).toNat : Int))
  rw [BitVec.toNat_and, u32_toNat ha, u32_toNat hb, wrap_u32n (Nat.lt_of_le_of_lt Nat.and_le_left ha)]
theorem y_or32 {a b : Nat} (hx : ρ x = .int .u32 a) (hy : ρ y = .int .u32 b) (ha : a < 4294967296) (hb : b < 4294967296) : Yld P ρ (.binOp .or t x y s) ty w (.int .u32 ((a ||| b : Nat) : Int)) := by
  refine y_ork hx hy ?_
  show _ = Value.int .u32 (IntKind.u32.wrap ((BitVec.ofInt 32 (a : Int) ||| BitVec.ofInt 32 (b : Int)).toNat : Int))
  rw [BitVec.toNat_or, u32_toNat ha, u32_toNat hb, wrap_u32n (Nat.or_lt_two_pow (n := 32) ha hb)]
theorem y_andnot32 {a b : Nat} (hx : ρ x = .int .u32 a) (hy : ρ y = .int .u32 b) (ha : a < 4294967296) (hb : b < 4294967296) : Yld P ρ (.binOp .andNot t x y s) ty w (.int .u32 ((a &&& (4294967295 - b) : Nat) : Int)) := by
  refine y_andnotk hx hy ?_
  show _ = Value.int .u32 (IntKind.u32.wrap ((BitVec.ofInt 32 (a : Int) &&& ~~~ BitVec.ofInt 32 (b : Int)).toNat : Int))
  rw [BitVec.toNat_and, BitVec.toNat_not, u32_toNat ha, u32_toNat hb, wrap_u32n (Nat.lt_of_le_of_lt Nat.and_le_left ha)]
theorem y_and64 {a b : Nat} (hx : ρ x = .int .i64 a) (hy : ρ y = .int .i64 b) (ha : a < 9223372036854775808) (hb : b < 9223372036854775808) : Yld P ρ (.binOp .and t x y s) ty w (.int .i64 ((a &&& b : Nat) : Int)) := by
  refine y_andk hx hy ?_
  show _ = Value.int .i64 (IntKind.i64.wrap ((BitVec.ofInt 64 (a : Int) &&& BitVec.ofInt 64 (b : Int)).toNat : Int))
  rw [BitVec.toNat_and, i64_toNat (by omega), i64_toNat (by omega), wrap_i64n (Nat.lt_of_le_of_lt Nat.and_le_left ha)]
theorem y_or64 {a b : Nat} (hx : ρ x = .int .i64 a) (hy : ρ y = .int .i64 b) (ha : a < 9223372036854775808) (hb : b < 9223372036854775808) : Yld P ρ (.binOp .or t x y s) ty w (.int .i64 ((a ||| b : Nat) : Int)) := by
  refine y_ork hx hy ?_
  show _ = Value.int .i64 (IntKind.i64.wrap ((BitVec.ofInt 64 (a : Int) ||| BitVec.ofInt 64 (b : Int)).toNat : Int))
  rw [BitVec.toNat_or, i64_toNat (by omega), i64_toNat (by omega), wrap_i64n (Nat.or_lt_two_pow (n := 63) ha hb)]

/-- The upper 32 - k bits of a number of 32 bits. -/
theorem and_mask {a k : Nat} (h : a < 4294967296) (hk : k ≤ 32) : a &&& (4294967296 - 2 ^ k) = a / 2 ^ k * 2 ^ k := by
  have e1 : 4294967296 - 2 ^ k = (2 ^ (32 - k) - 1) <<< k := by
    rw [Nat.shiftLeft_eq, Nat.sub_mul, Nat.one_mul, ← Nat.pow_add, show 32 - k + k = 32 by omega]
  have e2 : a / 2 ^ k * 2 ^ k = (a >>> k) <<< k := by rw [Nat.shiftLeft_eq, Nat.shiftRight_eq_div_pow]
  rw [e1, e2]
  apply Nat.eq_of_testBit_eq
  intro i
  rw [Nat.testBit_and, Nat.testBit_shiftLeft, Nat.testBit_shiftLeft, Nat.testBit_two_pow_sub_one, Nat.testBit_shiftRight]
  by_cases c : k ≤ i
  · have e3 : k + (i - k) = i := by omega
    rw [e3]
    by_cases c2 : i < 32
    · have : i - k < 32 - k := by omega
      simp [c, this]
    · have : a.testBit i = false := Nat.testBit_lt_two_pow (Nat.lt_of_lt_of_le h (by
        have : 2 ^ 32 ≤ 2 ^ i := Nat.pow_le_pow_right (by decide) (by omega)
        exact this))
      simp [this]
  · simp [c]
theorem and_low {a k : Nat} (hk : k ≤ 32) : a &&& (4294967295 - (4294967296 - 2 ^ k)) = a % 2 ^ k := by
  have h1 : 2 ^ k ≤ 2 ^ 32 := Nat.pow_le_pow_right (by decide) hk
  have h2 : 0 < 2 ^ k := Nat.pow_pos (by decide)
  have h3 : (2 : Nat) ^ 32 = 4294967296 := rfl
  rw [show 4294967295 - (4294967296 - 2 ^ k) = 2 ^ k - 1 by omega]
  exact Nat.and_two_pow_sub_one_eq_mod a k
theorem or_next {a j : Nat} (h : a % 2 ^ (j + 1) = 0) : a ||| 2 ^ j = a + 2 ^ j := by
  have e : a = 2 ^ (j + 1) * (a / 2 ^ (j + 1)) := by have := Nat.div_add_mod a (2 ^ (j + 1)); omega
  have hlt : (2 : Nat) ^ j < 2 ^ (j + 1) := Nat.pow_lt_pow_right (by decide) (by omega)
  rw [e]
  exact (Nat.two_pow_add_eq_or_of_lt hlt _).symm
theorem or_byte {a b : Nat} (h : b < 256) : a * 256 ||| b = a * 256 + b := by
  have := Nat.two_pow_add_eq_or_of_lt (i := 8) (b := b) h a
  have e : (2 : Nat) ^ 8 = 256 := rfl
  rw [e, Nat.mul_comm] at this
  exact this.symm

/-- A struct that can be read as long as the blocks of L stand. -/
theorem y_ldR {a : Addr} {sz bs : Nat} {z : Option Value} {vs : List Value} [ht : AggT P t] [hz : TInfo P t z sz bs] (hx : ρ x = .pointer (some a)) (hl : vs.length = sz) (hv : ∀ i, i < sz → w.cell? (a.add i) = vs[i]?) :
    Yld P ρ (.load t x) ty w (.agg vs.toArray) := by
  constructor; intro _ _ _ _
  obtain ⟨inf, h1, _, h3, _⟩ := tinfo_some hz.out
  have key : ∀ (n i : Nat) (acc : Array Value), i + n = vs.length → (loadCellsFrom a i n acc).run P w = .ok (acc ++ (vs.drop i).toArray) w := by
    intro n
    induction n with
    | zero => intro i acc h; simp [loadCellsFrom, List.drop_eq_nil_of_le (show vs.length ≤ i by omega)]
    | succ n ih =>
      intro i acc h
      have hlt : i < vs.length := by omega
      simp only [loadCellsFrom, Sem.run_bind, run_load, hv i (by omega), List.getElem?_eq_getElem hlt, Result.andThen_ok]
      rw [ih (i + 1) _ (by omega)]
      congr 1
      rw [List.drop_eq_getElem_cons hlt]
      apply Array.ext'
      simp
  have hr : (loadCells a sz).run P w = .ok vs.toArray w := by
    unfold loadCells
    rw [key sz 0 #[] (by omega)]
    simp
  simp [execOp, Instr.loadAt, Instr.sureAddr, hx, loadVar, run_isAgg_agg ht.out, Go.sizeOf, typeInfo, h1, h3, hr]
end
end PB
