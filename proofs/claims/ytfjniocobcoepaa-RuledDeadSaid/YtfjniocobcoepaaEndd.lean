/- Facts on the functions and types of this seat that its laws are proved from: contracts under the premises that each theorem names. -/
import Derived.Test.YtfjniocobcoepaaEnc
import Derived.ChangeKeysEq
import Derived.Recover
import Derived.Defers
set_option linter.unusedSimpArgs false
set_option linter.unusedVariables false
set_option linter.unnecessarySimpa false

/-! ## Maps keyed by three whole numbers, with whole numbers -/
namespace PB
open Go Go.RowKit

abbrev K3 := Int × Int × Int
abbrev kv (a : K3) : Value := .agg [I64 a.1, I64 a.2.1, I64 a.2.2].toArray
def ents : Nat → List (K3 × Int) → List MapEntry
  | _, [] => []
  | j, p :: l => ⟨kv p.1, I64 p.2, j⟩ :: ents (j + 1) l
def mapObj (l : List (K3 × Int)) : Obj := .map (ents 0 l).toArray l.length
def lookF : List (K3 × Int) → K3 → Option Int
  | [], _ => none
  | p :: l, a => if a = p.1 then some p.2 else lookF l a
def putF : List (K3 × Int) → K3 → Int → List (K3 × Int)
  | [], a, v => [(a, v)]
  | p :: l, a, v => if a = p.1 then (a, v) :: l else p :: putF l a v
def idxF : List (K3 × Int) → K3 → Nat → Option (Nat × Value)
  | [], _, _ => none
  | p :: l, a, i => if a = p.1 then some (i, I64 p.2) else idxF l a (i + 1)

class KeyOk (P : Program) (k : TypeId) : Prop where
  eq : ∀ w (a b : K3), (Op.equal k (kv a) (kv b)).run P w = .ok (decide (a = b)) w
  chk : ∀ w e (a : K3), (Instr.checkKey e 10000 k (kv a)).run P w = .ok () w
  now : ∃ d, P.underlying k = some d ∧ ∀ a b, Instr.sameNow d (kv a) (kv b) = none

section
variable {P : Program} {k : TypeId} {w W0 : World} {L L' : List (Nat × MObj)}

theorem run_findAsking [hk : KeyOk P k] (a : K3) : ∀ (l : List (K3 × Int)) (j i : Nat), (Instr.findAsking k (kv a) (ents j l) i).run P w = .ok (idxF l a i) w
  | [], j, i => by simp [ents, Instr.findAsking, idxF]
  | p :: l, j, i => by
    have ih := run_findAsking a l (j + 1) (i + 1)
    simp only [ents, Instr.findAsking, Sem.run_bind, hk.eq, Result.andThen_ok, idxF]
    by_cases c : a = p.1
    · simp [c]
    · simp only [c, decide_false, Bool.false_eq_true, if_false]; exact ih
theorem run_findKey [hk : KeyOk P k] (a : K3) (l : List (K3 × Int)) : (Instr.findKey k (kv a) (ents 0 l)).run P w = .ok (idxF l a 0) w := by
  obtain ⟨d, hd, hn⟩ := hk.now
  unfold Instr.findKey
  simp only [Sem.run_bind, run_underlying hd, Result.andThen_ok]
  cases l with
  | nil => simp [ents, Instr.findNow, idxF]
  | cons p l =>
    have : Instr.findNow d (kv a) (ents 0 (p :: l)) 0 = none := by simp [ents, Instr.findNow, hn]
    rw [this]
    exact run_findAsking a (p :: l) 0 0
theorem idx_look (l : List (K3 × Int)) (a : K3) : ∀ i, (idxF l a i).map (·.2) = (lookF l a).map I64 := by
  induction l with
  | nil => intro i; rfl
  | cons p l ih => intro i; simp only [idxF, lookF]; split <;> simp [ih]
theorem ents_len : ∀ (l : List (K3 × Int)) (j : Nat), (ents j l).length = l.length
  | [], _ => rfl
  | p :: l, j => by simp [ents, ents_len l]
theorem put_new : ∀ (l : List (K3 × Int)) (a : K3) (v : Int) (i : Nat), idxF l a i = none → putF l a v = l ++ [(a, v)]
  | [], a, v, i, _ => rfl
  | p :: l, a, v, i, h => by
    simp only [idxF] at h
    split at h
    · cases h
    · rename_i c
      simp only [putF, if_neg c, List.cons_append, put_new l a v (i + 1) h]
theorem ents_app : ∀ (l : List (K3 × Int)) (a : K3) (v : Int) (j : Nat), ents j (l ++ [(a, v)]) = ents j l ++ [⟨kv a, I64 v, j + l.length⟩]
  | [], a, v, j => by simp [ents]
  | p :: l, a, v, j => by simp [ents, ents_app l a v (j + 1)]; omega
theorem put_old : ∀ (l : List (K3 × Int)) (a : K3) (v : Int) (i j : Nat) (q : Nat × Value), idxF l a i = some q → i ≤ q.1 ∧ (putF l a v).length = l.length ∧ ((ents j l)[q.1 - i]?).map (·.key) = some (kv a) ∧
    ents j (putF l a v) = (ents j l).modify (q.1 - i) fun e => { e with key := kv a, val := I64 v }
  | [], a, v, i, j, q, h => by simp [idxF] at h
  | p :: l, a, v, i, j, q, h => by
    simp only [idxF] at h
    split at h
    · rename_i c
      cases h
      simp [putF, c, ents]
    · rename_i c
      obtain ⟨h1, h2, h3, h4⟩ := put_old l a v (i + 1) (j + 1) q h
      have e : q.1 - i = (q.1 - (i + 1)) + 1 := by omega
      refine ⟨by omega, by simp [putF, c, h2], ?_, ?_⟩
      · rw [e]; simpa [ents] using h3
      · rw [e]; simp [putF, c, ents, h4]

theorem sameBits_kv (a : K3) : Instr.sameBits 10000 (kv a) (kv a) = true := by
  simp [Instr.sameBits]

variable {Q : Exit → Act → World → Prop} {K : Act → World → Prop} {n : Nat} {Γ : Fr} {ρ : Nat → Value} {ds : List Deferred} {ty t e : TypeId} {pos : String} {after : Array Edge} {g : Option (Nat × Bool)} {d : Nat} {x y z : Operand} {v : Value}

theorem run_getObj' {b : Nat} {es : Array MapEntry} {c : Nat} (h : w.heap[b]? = some (.map es c)) : (getObj b).run P w = .ok (.map es c) w := by
  simp [getObj, Sem.run, h]

theorem run_setObj' {b : Nat} {es : Array MapEntry} {c : Nat} (o : Obj) (h : w.heap[b]? = some (.map es c)) : (setObj b o).run P w = .ok () { w with heap := w.heap.setIfInBounds b o } := by
  simp [setObj, Sem.run, h]
theorem y_lookup3 {ρ : Operand → Value} {b : Nat} {l : List (K3 × Int)} {a : K3} {sz bs : Nat} (hs : St W0 w L) [hu : Under P t (.map k e)] [hk : KeyOk P k] [hI : TInfo P e (some (I64 0)) sz bs] (hx : ρ x = .map (some b)) (hy : ρ y = kv a) [hi : InL b (.obj (mapObj l)) L]
    (hv : v = .tuple #[I64 ((lookF l a).getD 0), .bool (lookF l a).isSome]) : Yld P ρ (.lookup t x y true) ty w v := by
  subst hv
  constructor; intro _ _ _ _
  obtain ⟨inf, hi1, hi2, hi3, hi4⟩ := tinfo_some hI.out
  have hh := hs.heap hi.mem
  simp only [MObj.toObj, mapObj] at hh
  have hl := idx_look l a 0
  simp only [execOp, hx, hy, Instr.lookup, Sem.run_bind, run_underlying hu.out, Result.andThen_ok, run_getObj' hh, Sem.run_pure, hk.chk, run_findKey]
  cases hq : idxF l a 0 with
  | none =>
    rw [hq] at hl
    cases hq2 : lookF l a with
    | none => simp [zeroValue, typeInfo, hi1, hi2]
    | some u => rw [hq2] at hl; cases hl
  | some q =>
    rw [hq] at hl
    cases hq2 : lookF l a with
    | none => rw [hq2] at hl; cases hl
    | some u =>
      rw [hq2] at hl
      simp at hl
      simp [hl]

theorem w_mapUpdate3 {b : Nat} {l : List (K3 × Int)} {a : K3} {u : Int} {dst : Option Nat} (hs : St W0 w L) [hu : Under P t (.map k e)] [hk : KeyOk P k] (hx : ev n Γ ρ x = .map (some b)) (hy : ev n Γ ρ y = kv a) (hz : ev n Γ ρ z = I64 u) [hi : InL b (.obj (mapObj l)) L]
    [up : Upd b (.obj (mapObj (putF l a u))) L L'] (hk2 : ∀ w', St W0 w' L' → K ((act n Γ ρ ds).put dst undef) w') :
    OW P ⟨dst, .mapUpdate t x y z, ty, pos, after, g⟩ (act n Γ ρ ds) w K Q := by
  have hh := hs.heap hi.mem
  simp only [MObj.toObj, mapObj] at hh
  have hrun : (execOp (ev n Γ ρ) ⟨dst, .mapUpdate t x y z, ty, pos, after, g⟩).run P w = .ok .skip { w with heap := w.heap.setIfInBounds b (mapObj (putF l a u)) } := by
    simp only [execOp, hx, hy, hz, Instr.mapUpdate, Sem.run_bind, run_underlying hu.out, Result.andThen_ok, run_getObj' hh, hk.chk, run_findKey]
    cases hq : idxF l a 0 with
    | none =>
      have hp := put_new l a u 0 hq
      have he := ents_app l a u 0
      have hlen : b < w.heap.size := World.lt_of_some hh
      have hso := run_setObj' (P := P) (mapObj (putF l a u)) hh
      simp only [Sem.run_bind, run_program, Sem.run_pure, Result.andThen_ok]
      have e1 : ((ents 0 l).toArray.push ⟨kv a, I64 u, l.length⟩) = (ents 0 (putF l a u)).toArray := by rw [hp, he]; simp
      have e2 : l.length + 1 = (putF l a u).length := by rw [hp]; simp
      rw [e1, e2]
      show ((setObj b (mapObj (putF l a u))).run P w).andThen _ = _
      rw [hso]; rfl
    | some q =>
      obtain ⟨h1, h2, h3, h4⟩ := put_old l a u 0 0 q hq
      simp only [Nat.sub_zero] at h3 h4
      have hlen : b < w.heap.size := World.lt_of_some hh
      have hkey : (((ents 0 l).toArray[q.1]?).map (·.key)).getD (kv a) = kv a := by
        rw [List.getElem?_toArray, h3]; rfl
      simp only [Sem.run_bind, Instr.keyThatStays, hkey, sameBits_kv, if_true, Sem.run_pure, Result.andThen_ok]
      have hso := run_setObj' (P := P) (mapObj (putF l a u)) hh
      have e1 : ((ents 0 l).toArray.modify q.1 fun e => { e with key := kv a, val := I64 u }) = (ents 0 (putF l a u)).toArray := by rw [h4]; simp
      rw [e1, ← h2]
      show ((setObj b (mapObj (putF l a u))).run P w).andThen _ = _
      rw [hso]; rfl
  constructor
  simp only [Oper.wp, eval_act, hrun, Oper.upon_skip]
  exact hk2 _ (hs.setObj (u := up) hi.mem)

theorem w_makeMap (hs : St W0 w L) (hk : ∀ b w', St W0 w' ((b, .obj (mapObj [])) :: L) → w.heap.size ≤ b → K (act n ((d, .map (some b)) :: Γ) ρ ds) w') :
    OW P ⟨some d, .makeMap t none, ty, pos, after, g⟩ (act n Γ ρ ds) w K Q := by
  have hrun : (execOp (ev n Γ ρ) ⟨some d, .makeMap t none, ty, pos, after, g⟩).run P w = .ok (.value (.map (some w.heap.size))) (w.alloc (MObj.obj (mapObj [])).toObj) := by
    simp [execOp, Instr.makeMap, MObj.toObj, mapObj, ents]
  constructor
  simp only [Oper.wp, eval_act, hrun, Oper.upon_value, put_act]
  exact hk _ _ (hs.alloc _) (Nat.le_refl _)
end
end PB
