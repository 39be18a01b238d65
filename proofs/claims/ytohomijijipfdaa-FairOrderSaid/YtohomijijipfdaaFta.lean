/- Facts on the functions and types of this seat that its laws are proved from: contracts under the premises that each theorem names. -/
import Derived.Test.YtohomijijipfdaaFa
set_option linter.unusedSimpArgs false
set_option linter.unusedVariables false
set_option linter.unnecessarySimpa false
namespace Go.Proofs.Ytohomijijipfdaa
open Go Go.RowKit PB
set_option linter.unusedVariables false

abbrev Str (s : ByteArray) : Value := .string s

/-- A queue as it lies in memory. -/
structure QE where
  w : Int
  d : Int
  os : OS
  ws : List ByteArray

def QE.cells (q : QE) : List Value := [I64 q.w, I64 q.d, .slice q.os.ad q.ws.length q.os.cap]
def flat (qs : List QE) : List Value := qs.flatMap QE.cells
def QE.blk (q : QE) : List (Nat × MObj) := q.os.blk (q.ws.map Str) 9
def waitsL (qs : List QE) : List (Nat × MObj) := qs.flatMap QE.blk
def QE.ok (q : QE) : Prop := q.os.ok (q.ws.map Str) q.ws.length 1

/-- The queues as they lie in memory. -/
structure QI where
  qb : Nat
  all : OS
  qs : List QE
  quantum : Int
  at_ : Nat
  paid : Bool

def QI.hdr (x : QI) : List Value := [.slice x.all.ad x.qs.length x.all.cap, I64 x.quantum, I64 x.at_, .bool x.paid]
def QI.L (x : QI) (R : List (Nat × MObj)) : List (Nat × MObj) := (x.qb, .cells x.hdr 44) :: (x.all.blk (flat x.qs) 46 ++ (waitsL x.qs ++ R))
structure QI.ok (x : QI) : Prop where
  all : x.all.ok (flat x.qs) x.qs.length 3
  qs : ∀ q ∈ x.qs, q.ok
  at_ : x.at_ < x.qs.length
  n : x.qs.length ≤ 8

theorem flat_append (a b : List QE) : flat (a ++ b) = flat a ++ flat b := by simp [flat]
theorem flat_cons (q : QE) (b : List QE) : flat (q :: b) = q.cells ++ flat b := by simp [flat]
theorem waitsL_append (a b : List QE) : waitsL (a ++ b) = waitsL a ++ waitsL b := by simp [waitsL]
theorem waitsL_cons (q : QE) (b : List QE) : waitsL (q :: b) = q.blk ++ waitsL b := by simp [waitsL]
theorem flat_length (qs : List QE) : (flat qs).length = qs.length * 3 := by
  induction qs with
  | nil => rfl
  | cons q qs ih => rw [flat_cons, List.length_append, ih]; simp [QE.cells]; omega

theorem flat_get (pre suf : List QE) (q : QE) (sp : List Value) (k : Nat) (hk : k < 3) : (flat (pre ++ q :: suf) ++ sp)[3 * pre.length + k]? = q.cells[k]? := by
  have h1 := flat_length pre
  rw [flat_append, flat_cons, List.append_assoc, List.append_assoc, List.getElem?_append_right (by omega), h1, show 3 * pre.length + k - pre.length * 3 = k by omega, List.getElem?_append_left (by simpa [QE.cells] using hk)]

theorem flat_set (pre suf : List QE) (q q' : QE) (sp : List Value) (k : Nat) (hk : k < 3) (v : Value) (h : q.cells.set k v = q'.cells) : (flat (pre ++ q :: suf) ++ sp).set (3 * pre.length + k) v = flat (pre ++ q' :: suf) ++ sp := by
  have h1 := flat_length pre
  rw [flat_append, flat_cons, flat_append, flat_cons, List.append_assoc, List.append_assoc, List.append_assoc, List.append_assoc, List.set_append_right _ _ (by omega), h1, show 3 * pre.length + k - pre.length * 3 = k by omega, List.set_append_left _ _ (by simpa [QE.cells] using hk), h]

theorem split_at {l : List QE} {i : Nat} (h : i < l.length) : ∃ pre q suf, l = pre ++ q :: suf ∧ pre.length = i :=
  ⟨l.take i, l[i], l.drop (i + 1), by simp, by simp; omega⟩

/-! ### leave -/

theorem leave_c {W0 w : World} {R : List (Nat × MObj)} (x : QI) (hok : x.ok) (hs : St W0 w (x.L R)) :
    FnC Try.prog 17 [.pointer (some ⟨x.qb, 0, none⟩)] w (fun v w' => v = .tuple #[] ∧ St W0 w' ({ x with at_ := (x.at_ + 1) % x.qs.length, paid := false }.L R)) := by
  have h1 := hok.at_
  have h2 := hok.n
  have hc : ((x.at_ : Int) + 1) % x.qs.length = (((x.at_ + 1) % x.qs.length : Nat) : Int) := by rw [Int.natCast_emod]; rfl
  unfold QI.L QI.hdr at *
  refine FnC.enter Try.func17 rfl Try.ntmps17 rfl fun ρ => ?_
  refine r_draw (.q 0 (.q 1 (.q 2 (.q 3 (.q 4 (.q 7 (.q 8 (.q 9 (.q 10 (.q 11 (.w 5 (.q 6 (.q 12 (.q 13 (.q 14 (.w 15 (.q 16 (.q 17 (.w 18 (.nil)))))))))))))))))))) 18 (fun w => w.cell? ⟨x.qb, 0, none⟩ = some (.slice x.all.ad x.qs.length x.all.cap)) mixed (by kernel_rfl) ?_
  have hs := hs.drew
  refine c_q rfl (by first | exact hs | exact hs.subl | exact hs.cellAt rfl | trivial) (fun _ _ _ h => h) (fun w hs => by exact y_mv_ptr rfl) ?_
  refine c_q rfl (by first | exact hs | exact hs.subl | exact hs.cellAt rfl | trivial) (fun _ _ _ h => h) (fun w hs => by exact y_mv_ptr rfl) ?_
  refine c_q rfl (by first | exact hs | exact hs.subl | exact hs.cellAt rfl | trivial) (fun _ _ _ h => h) (fun w hs => by exact y_mv_ptr rfl) ?_
  refine c_q rfl (by first | exact hs | exact hs.subl | exact hs.cellAt rfl | trivial) (fun _ _ _ h => h) (fun w hs => by first | exact y_nil rfl | exact y_nilf rfl) ?_
  refine c_q rfl (by first | exact hs | exact hs.subl | exact hs.cellAt rfl | trivial) (fun _ _ _ h => h) (fun w hs => by exact y_field rfl) ?_
  refine c_q rfl (by first | exact hs | exact hs.subl | exact hs.cellAt rfl | trivial) (fun _ _ _ h => h) (fun w hs => by exact y_mv_ptr rfl) ?_
  refine c_q rfl (by first | exact hs | exact hs.subl | exact hs.cellAt rfl | trivial) (fun _ _ _ h => h) (fun w hs => by first | exact y_nil rfl | exact y_nilf rfl) ?_
  refine c_q rfl (by first | exact hs | exact hs.subl | exact hs.cellAt rfl | trivial) (fun _ _ _ h => h) (fun w hs => by exact y_field rfl) ?_
  refine c_q rfl (by first | exact hs | exact hs.subl | exact hs.cellAt rfl | trivial) (fun _ _ _ h => h) (fun w hs => by exact y_load rfl hs) ?_
  refine c_q rfl (by first | exact hs | exact hs.subl | exact hs.cellAt rfl | trivial) (fun _ _ _ h => h) (fun w hs => by exact y_len_slice rfl) ?_
  refine c_w rfl (ow_y (by exact y_ld hs rfl rfl) ?_)
  refine ⟨fun _ => by first | exact hs | exact hs.subl | exact hs.cellAt rfl | trivial, ?_⟩
  refine c_q rfl (by first | exact hs | exact hs.subl | exact hs.cellAt rfl | trivial) (fun _ _ _ h => h) (fun w hs => by first | exact y_addn rfl rfl (by omega) | exact y_add rfl rfl rfl) ?_
  refine c_q rfl (by first | exact hs | exact hs.subl | exact hs.cellAt rfl | trivial) (fun _ _ _ h => h) (fun w hs => by first | exact y_remn rfl rfl (by omega) | exact y_rem rfl rfl (by first | decide | omega) rfl) ?_
  refine c_q rfl (by first | exact hs | exact hs.subl | exact hs.cellAt rfl | trivial) (fun _ _ _ h => h) (fun w hs => by first | exact y_nil rfl | exact y_nilf rfl) ?_
  refine c_q rfl (by first | exact hs | exact hs.subl | exact hs.cellAt rfl | trivial) (fun _ _ _ h => h) (fun w hs => by exact y_field rfl) ?_
  refine c_w rfl (w_store (v := .int .i64 _) hs rfl rfl rfl rfl (fun w hs => ?_))
  refine ⟨fun _ => by first | exact hs | exact hs.subl | exact hs.cellAt rfl | trivial, ?_⟩
  refine c_q rfl (by first | exact hs | exact hs.subl | exact hs.cellAt rfl | trivial) (fun _ _ _ h => h) (fun w hs => by first | exact y_nil rfl | exact y_nilf rfl) ?_
  refine c_q rfl (by first | exact hs | exact hs.subl | exact hs.cellAt rfl | trivial) (fun _ _ _ h => h) (fun w hs => by exact y_field rfl) ?_
  refine c_w rfl (w_store (v := .bool _) hs rfl rfl rfl rfl (fun w hs => ?_))
  refine ⟨fun h => absurd rfl h, ?_⟩
  refine c_end ?_
  refine end_ [] rfl trivial ⟨rfl, ?_⟩
  rw [← hc]
  exact hs
end Go.Proofs.Ytohomijijipfdaa
