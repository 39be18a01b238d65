/- Facts on the functions and types of this seat that its laws are proved from: contracts under the premises that each theorem names. -/
import Derived.Test.YtfjniocobcoepaaR3
import Derived.WalkKit
import Derived.ProofKit
import Derived.Below
import Derived.Deep.Slices
set_option linter.unusedSimpArgs false
set_option linter.unusedVariables false
set_option linter.unnecessarySimpa false
namespace Go.Proofs.Ytfjniocobcoepaa
open Go Go.RowKit PB
open Go.ChangeShapes Go.WideShapes Go.ChangeAt Go.Deep
set_option linter.unusedVariables false
set_option linter.unusedSimpArgs false

/-! ### What a caller hands in, opened -/
theorem cells_u32 : Try.prog.cellsOf 49 = 1 := by kernel_rfl
theorem cells_int : Try.prog.cellsOf 3 = 1 := by kernel_rfl
theorem cells_bool : Try.prog.cellsOf 4 = 1 := by kernel_rfl
theorem cells_str : Try.prog.cellsOf 9 = 1 := by kernel_rfl
theorem cells_pre : Try.prog.cellsOf 63 = 2 := by kernel_rfl
theorem cells_rule : Try.prog.cellsOf 65 = 10 := by kernel_rfl
theorem cells_pkt : Try.prog.cellsOf 51 = 9 := by kernel_rfl

theorem wf_u32 {n : Int} (h : (Lit.int .u32 n).wf = true) : ∃ m : Nat, n = m ∧ m < 4294967296 := by
  simp [Lit.wf, IntKind.min, IntKind.max, IntKind.bits, IntKind.signed] at h
  exact ⟨n.toNat, by omega, by omega⟩

section
variable {H : Type} {enc : TypeId × Value → H} {W : World} {base : Nat} {sp : Nat → Bool} {held : Bool} {fuel : Nat} {cs : List Value} {x : DataW H × List MemPlace}

theorem tr_u32 {v : Value} (h : DataW.trod enc Try.prog W base sp held fuel 49 [v] = some x) : ∃ m : Nat, v = U32 m ∧ m < 4294967296 := by
  obtain ⟨n, h1, _, h3⟩ := DataW.trod_int Try.underlying49 h
  obtain ⟨m, rfl, hm⟩ := wf_u32 h3
  exact ⟨m, by simpa using h1, hm⟩
theorem tr_int {v : Value} (h : DataW.trod enc Try.prog W base sp held fuel 3 [v] = some x) : ∃ n : Int, v = I64 n := by
  obtain ⟨n, h1, _, _⟩ := DataW.trod_int Try.underlying3 h
  exact ⟨n, by simpa using h1⟩
theorem tr_bool {v : Value} (h : DataW.trod enc Try.prog W base sp held fuel 4 [v] = some x) : ∃ n : Bool, v = .bool n := by
  obtain ⟨n, h1, _⟩ := DataW.trod_bool Try.underlying4 h
  exact ⟨n, by simpa using h1⟩
theorem tr_str {v : Value} (h : DataW.trod enc Try.prog W base sp held fuel 9 [v] = some x) : ∃ n : ByteArray, v = .string n ∧ n.size ≤ 9223372036854775807 := by
  obtain ⟨n, h1, _, h3⟩ := DataW.trod_string Try.underlying9 h
  exact ⟨n, by simpa using h1, h3⟩

set_option maxRecDepth 100000 in
theorem open_pre (h : DataW.trod enc Try.prog W base sp held fuel 63 cs = some x) : ∃ (a : Nat) (n : Int), cs = [U32 a, I64 n] ∧ a < 4294967296 := by
  obtain ⟨xs, n, _, _, hlen, hxl, hg⟩ := DataW.trod_struct Try.underlying63 h
  rw [cells_pre] at hlen
  match cs, hlen with
  | [c0, c1], _ =>
    match xs, hxl with
    | [y0, y1], _ =>
      have h0 := hg 0 _ rfl
      have h1 := hg 1 _ rfl
      simp [cells_u32, cells_int] at h0 h1
      obtain ⟨a, rfl, ha⟩ := tr_u32 h0
      obtain ⟨b, rfl⟩ := tr_int h1
      exact ⟨a, b, rfl, ha⟩

set_option maxRecDepth 100000 in
theorem open_pkt (h : DataW.trod enc Try.prog W base sp held fuel 51 cs = some x) : ∃ p : PktV, cs = p.cells ∧ p.fits := by
  obtain ⟨xs, n, _, _, hlen, hxl, hg⟩ := DataW.trod_struct Try.underlying51 h
  rw [cells_pkt] at hlen
  match cs, hlen with
  | [c0, c1, c2, c3, c4, c5, c6, c7, c8], _ =>
    match xs, hxl with
    | [y0, y1, y2, y3, y4, y5, y6, y7, y8], _ =>
      have h0 := hg 0 _ rfl
      have h1 := hg 1 _ rfl
      have h2 := hg 2 _ rfl
      have h3 := hg 3 _ rfl
      have h4 := hg 4 _ rfl
      have h5 := hg 5 _ rfl
      have h6 := hg 6 _ rfl
      have h7 := hg 7 _ rfl
      have h8 := hg 8 _ rfl
      simp [cells_u32, cells_int, cells_bool, cells_str] at h0 h1 h2 h3 h4 h5 h6 h7 h8
      obtain ⟨a0, rfl, w0⟩ := tr_u32 h0
      obtain ⟨a1, rfl, w1⟩ := tr_u32 h1
      obtain ⟨a2, rfl⟩ := tr_int h2
      obtain ⟨a3, rfl⟩ := tr_int h3
      obtain ⟨a4, rfl⟩ := tr_int h4
      obtain ⟨a5, rfl⟩ := tr_int h5
      obtain ⟨a6, rfl⟩ := tr_bool h6
      obtain ⟨a7, rfl⟩ := tr_bool h7
      obtain ⟨a8, rfl, w8⟩ := tr_str h8
      exact ⟨⟨a0, a1, a2, a3, a4, a5, a6, a7, a8⟩, rfl, w0, w1, w8⟩

set_option maxRecDepth 100000 in
theorem open_rule (h : DataW.trod enc Try.prog W base sp held fuel 65 cs = some x) : ∃ r : RuleV, cs = r.cells ∧ r.fits := by
  obtain ⟨xs, n, _, _, hlen, hxl, hg⟩ := DataW.trod_struct Try.underlying65 h
  rw [cells_rule] at hlen
  match cs, hlen with
  | [c0, c1, c2, c3, c4, c5, c6, c7, c8, c9], _ =>
    match xs, hxl with
    | [y0, y1, y2, y3, y4, y5, y6, y7], _ =>
      have h0 := hg 0 _ rfl
      have h1 := hg 1 _ rfl
      have h2 := hg 2 _ rfl
      have h3 := hg 3 _ rfl
      have h4 := hg 4 _ rfl
      have h5 := hg 5 _ rfl
      have h6 := hg 6 _ rfl
      have h7 := hg 7 _ rfl
      simp [cells_pre, cells_int, cells_bool] at h0 h1 h2 h3 h4 h5 h6 h7
      obtain ⟨a0, rfl⟩ := tr_bool h0
      obtain ⟨a1, b1, e1, w1⟩ := open_pre h1
      obtain ⟨a2, b2, e2, w2⟩ := open_pre h2
      obtain ⟨a3, rfl⟩ := tr_int h3
      obtain ⟨a4, rfl⟩ := tr_int h4
      obtain ⟨a5, rfl⟩ := tr_int h5
      obtain ⟨a6, rfl⟩ := tr_int h6
      obtain ⟨a7, rfl⟩ := tr_int h7
      simp at e1 e2
      obtain ⟨rfl, rfl⟩ := e1
      obtain ⟨rfl, rfl⟩ := e2
      exact ⟨⟨a0, a1, b1, a2, b2, a3, a4, a5, a6, a7⟩, rfl, w1, w2⟩

/-- Rules that came in. -/
structure RulesIn (W : World) (a : Option Addr) (l : List RuleV) : Prop where
  at_ : ∀ i r, l[i]? = some r → ∃ x, a = some x ∧ ∀ k, k < 10 → W.cell? ((x.add (i * 10)).add k) = r.cells[k]?
  fits : ∀ r ∈ l, r.fits
  len : l.length ≤ 9223372036854775807

theorem RulesIn.rd {a : Option Addr} {l : List RuleV} (h : RulesIn W a l) (L : List (Nat × MObj)) : RdR W L a l := ⟨fun i r hi => by
  obtain ⟨x, h1, h2⟩ := h.at_ i r hi
  refine ⟨x, h1, fun w hs k hk => ?_⟩
  have h3 := h2 k hk
  have h4 : k < r.cells.length := hk
  rw [List.getElem?_eq_getElem h4] at h3 ⊢
  rw [hs.old (lt_of_cell h3)]; exact h3⟩

theorem open_rules {a : Option Addr} {len cap : Nat} {d : DataW H} {ps : List MemPlace} (h : DataW.Trod enc Try.prog W base sp held 48 (.slice a len cap) d ps) :
    ∃ l, l.length = len ∧ RulesIn W a l ∧ len ≤ cap := by
  obtain ⟨fuel, hf⟩ := h
  rcases open_slice Try.underlying48 hf with ⟨hcs, _⟩ | ⟨x, len', cap', m, n, D, Pl, hcs, hb, hl, hm, hmm, hx, hi⟩
  · simp [Value.cells] at hcs
    obtain ⟨rfl, rfl, rfl⟩ := hcs
    exact ⟨[], rfl, ⟨fun i r hi => by simp at hi, by simp, by simp⟩, Nat.le_refl _⟩
  · simp [Value.cells] at hcs
    obtain ⟨rfl, rfl, rfl⟩ := hcs
    have hlm : len ≤ m := by rw [hmm]; split <;> omega
    have hex : ∀ i, ∃ r : RuleV, i < len → (r.fits ∧ ∀ k, k < 10 → W.cell? ((x.add (i * 10)).add k) = r.cells[k]?) := by
      intro i
      by_cases c : i < len
      · obtain ⟨cs', hc, ht⟩ := hi i (by omega)
        obtain ⟨r, hr, hrf⟩ := open_rule ht
        rw [cells_rule] at hc
        obtain ⟨_, _, hat⟩ := World.cells?_some hc
        exact ⟨r, fun _ => ⟨hrf, fun k hk => by rw [hat k hk, hr]⟩⟩
      · exact ⟨⟨false, 0, 0, 0, 0, 0, 0, 0, 0, 0⟩, fun h => absurd h c⟩
    obtain ⟨f, hf'⟩ := Classical.axiomOfChoice hex
    unfold maxLen at hm
    refine ⟨(List.range len).map f, by simp, ⟨fun i r hir => ?_, fun r hr => ?_, by simp; omega⟩, hl⟩
    · by_cases hlt : i < len
      · simp [hlt] at hir
        subst hir
        exact ⟨x, rfl, (hf' i hlt).2⟩
      · rw [List.getElem?_eq_none (by simp; omega)] at hir; cases hir
    · simp at hr
      obtain ⟨i, hlt, rfl⟩ := hr
      exact (hf' i hlt).1
end
end Go.Proofs.Ytfjniocobcoepaa
