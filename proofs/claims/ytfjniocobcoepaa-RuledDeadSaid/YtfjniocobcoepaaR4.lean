/- Facts on the functions and types of this seat that its laws are proved from: contracts under the premises that each theorem names. -/
import Derived.Test.YtfjniocobcoepaaR3
import Derived.Test.YtfjniocobcoepaaEnc
set_option linter.unusedSimpArgs false
set_option linter.unusedVariables false
set_option linter.unnecessarySimpa false
namespace Go.Proofs.Ytfjniocobcoepaa
open Go Go.RowKit PB
set_option linter.unusedVariables false
set_option linter.unusedSimpArgs false

def flatR (l : List RuleV) : List Value := l.flatMap RuleV.cells
theorem flatR_append (a b : List RuleV) : flatR (a ++ b) = flatR a ++ flatR b := by simp [flatR]
theorem flatR_cons (t : RuleV) (b : List RuleV) : flatR (t :: b) = t.cells ++ flatR b := by simp [flatR]
theorem flatR_len (l : List RuleV) : (flatR l).length = l.length * 10 := by
  induction l with
  | nil => rfl
  | cons t l ih => rw [flatR_cons, List.length_append, ih]; simp; omega
theorem flatR_at {l : List RuleV} {i k : Nat} {r : RuleV} (h : l[i]? = some r) (hk : k < 10) : (flatR l)[i * 10 + k]? = r.cells[k]? := by
  have hlt : i < l.length := by
    rcases Nat.lt_or_ge i l.length with c | c
    · exact c
    · rw [List.getElem?_eq_none c] at h; cases h
  have e : l = l.take i ++ r :: l.drop (i + 1) := by
    rw [List.getElem?_eq_getElem hlt] at h
    cases h
    simp
  rw [e, flatR_append, flatR_cons]
  have h1 := flatR_len (l.take i)
  rw [List.length_take, Nat.min_eq_left (by omega)] at h1
  rw [List.getElem?_append_right (by omega), h1, show i * 10 + k - i * 10 = k by omega, List.getElem?_append_left (by simpa using hk)]
theorem flatR_one (l : List RuleV) : (flatR l).all oneB = true := by
  simp only [List.all_eq_true, flatR, List.mem_flatMap]
  rintro v ⟨r, _, hv⟩
  simp only [RuleV.cells, List.mem_cons, List.not_mem_nil, or_false] at hv
  rcases hv with h | h | h | h | h | h | h | h | h | h <;> (subst h; rfl)

theorem rdR_mem {W0 : World} {L : List (Nat × MObj)} {b : Nat} {l : List RuleV} {sp : List Value} {e : TypeId} (h : (b, MObj.cells (flatR l ++ sp) e) ∈ L) : RdR W0 L (some ⟨b, 0, none⟩) l :=
  ⟨fun i r hi => ⟨_, rfl, fun w hs k hk => by
    have hlt : i < l.length := by
      rcases Nat.lt_or_ge i l.length with c | c
      · exact c
      · rw [List.getElem?_eq_none c] at hi; cases hi
    rw [addr_add, addr_add, Nat.zero_add, hs.cell h, List.getElem?_append_left (by rw [flatR_len]; omega), flatR_at hi hk]⟩⟩
theorem rdR_blk {W0 : World} {L : List (Nat × MObj)} {b : Nat} {l : List RuleV} {e : TypeId} {cs : List Value} (hcs : cs = flatR l) : RdR W0 ((b, .cells cs e) :: L) (some ⟨b, 0, none⟩) l :=
  rdR_mem (sp := []) (by rw [hcs, List.append_nil]; exact List.mem_cons_self ..)
theorem RdR.mono {W0 : World} {L L' : List (Nat × MObj)} {a : Option Addr} {l : List RuleV} (h : RdR W0 L a l) (hs : ∀ w, St W0 w L' → St W0 w L) : RdR W0 L' a l :=
  ⟨fun i r hi => by obtain ⟨x, h1, h2⟩ := h.at_ i r hi; exact ⟨x, h1, fun w hw => h2 w (hs w hw)⟩⟩
theorem RdR.take {W0 : World} {L : List (Nat × MObj)} {a : Option Addr} {l : List RuleV} (h : RdR W0 L a l) (n : Nat) : RdR W0 L a (l.take n) :=
  ⟨fun i r hi => h.at_ i r (by
    rw [List.getElem?_take] at hi
    split at hi
    · exact hi
    · cases hi)⟩
theorem addr_addadd (a : Addr) (i j : Nat) : (a.add i).add j = a.add (i + j) := by
  obtain ⟨b, o, q⟩ := a
  unfold Addr.add
  by_cases hi : i = 0 <;> by_cases hj : j = 0 <;> simp_all [Nat.add_assoc]
theorem rdR_first {W0 : World} {L : List (Nat × MObj)} {a : Option Addr} {l : List RuleV} (h : RdR W0 L a l) {w : World} (hs : St W0 w L) (c : Nat) : (Builtin.firstCells 10 l.length (.slice a l.length c)).run Try.prog w = .ok (flatR l).toArray w := by
  refine run_firstR (flatR_len l) (fun i hi => ?_) (fun ha => ?_)
  · have hlt : i / 10 < l.length := by omega
    obtain ⟨x, h1, h2⟩ := h.at_ (i / 10) l[i / 10] (List.getElem?_eq_getElem hlt)
    refine ⟨x, h1, ?_⟩
    have h3 := h2 w hs (i % 10) (by omega)
    rw [← flatR_at (List.getElem?_eq_getElem hlt) (show i % 10 < 10 by omega), show i / 10 * 10 + i % 10 = i by omega] at h3
    rw [← h3, addr_addadd, show i / 10 * 10 + i % 10 = i by omega]
  · cases l with
    | nil => rfl
    | cons r l =>
      obtain ⟨x, h1, _⟩ := h.at_ 0 r rfl
      rw [ha] at h1; cases h1

theorem rcheck_v {W0 w : World} {L : List (Nat × MObj)} {a : Option Addr} (l : List RuleV) (cap : Nat) {e : Int} (he : lChk l = e) (hr : RdR W0 L a l) (hf : ∀ r ∈ l, r.fits) (hl : l.length ≤ 9223372036854775807) (hs : St W0 w L) :
    FnC Try.prog 28 [.slice a l.length cap] w (fun v w' => v = I64 e ∧ St W0 w' L) := by
  subst he; exact rcheck_c l cap hr hf hl hs
theorem judge_v {W0 w : World} {L : List (Nat × MObj)} {a : Option Addr} (l : List RuleV) (cap : Nat) (p : PktV) {i e : Int} (he : judgeF l p = (i, e)) (hr : RdR W0 L a l) (hf : ∀ r ∈ l, r.fits) (hp : p.fits) (hl : l.length ≤ 9223372036854775807) (hs : St W0 w L) :
    FnC Try.prog 29 [.slice a l.length cap, .agg p.cells.toArray] w (fun v w' => v = .tuple #[I64 i, I64 e] ∧ St W0 w' L) := by
  have := judge_c l cap p hr hf hp hl hs
  rwa [he] at this
theorem fits1 {r : RuleV} (h : r.fits) : ∀ x ∈ [r], x.fits := by simpa using h
theorem fits2 {r s : RuleV} (h : r.fits) (h2 : s.fits) : ∀ x ∈ [r, s], x.fits := by simpa using ⟨h, h2⟩

/-- everything(b). -/
def ruleE (b : Bool) : RuleV := ⟨b, 0, 0, 0, 0, 0, 0, 65535, 0, 65535⟩
theorem everything_c {W0 w : World} {L : List (Nat × MObj)} (b : Bool) (hs : St W0 w L) :
    FnC Try.prog 41 [.bool b] w (fun v w' => v = .agg (ruleE b).cells.toArray ∧ St W0 w' L) := by
  refine FnC.enter Try.func41 rfl Try.ntmps41 rfl fun ρ => ?_
  refine s_seq ?_
  refine s_reg ?_
  refine l_w (w_alloc (cs := [_, _, _, _, _, _, _, _, _, _]) hs rfl (fun b2 w hs hb2 => ?_))
  refine l_end ?_
  refine e_then ?_
  refine s_seq ?_
  refine s_reg ?_
  refine l_q (by exact y_mv_bool rfl) ?_
  refine l_q (by exact y_build (pv := [(0, .bool _), (5, .int .i64 _), (7, .int .i64 _)]) (vs := [_, _, _, _, _, _, _, _, _, _]) rfl rfl) ?_
  refine l_w (w_storeA (vs := [_, _, _, _, _, _, _, _, _, _]) hs rfl rfl rfl rfl rfl (fun w hs => ?_))
  refine l_end ?_
  refine e_then ?_
  refine s_ret ?_
  exact ret_ [.agg (List.toArray [_, _, _, _, _, _, _, _, _, _])] rfl ⟨⟨_, rfl, run_ldA hs rfl rfl⟩, trivial⟩ ⟨rfl, hs.tail⟩
theorem ruleE_fits (b : Bool) : (ruleE b).fits := ⟨show 0 < 4294967296 by decide, show 0 < 4294967296 by decide⟩
theorem rdR_os {W0 : World} {R : List (Nat × MObj)} {s : OS} {g : Nat} {l : List RuleV} {e : TypeId} (hg : s.a = some g) : RdR W0 (s.blk (flatR l) e ++ R) s.ad l := by
  have h : s.ad = some ⟨g, 0, none⟩ := by simp [OS.ad, hg]
  rw [h]
  exact rdR_mem (sp := s.sp) (e := e) (by simp [OS.blk, hg])

theorem w_appR {W0 w : World} {R : List (Nat × MObj)} {Q : Exit → Act → World → Prop} {K : Act → World → Prop} {n : Nat} {Γ : Fr} {ρ : Nat → Value} {ds : List Deferred} {ty t : TypeId} {pos : String} {after : Array Edge} {g : Option (Nat × Bool)} {d : Nat} {x y : Operand} {s : OS} {c : Nat} {a : Option Addr} {t2 : TypeId} (l m : List RuleV)
    (hs : St W0 w (s.blk (flatR l) 65 ++ R)) (hok : s.ok (flatR l) l.length 10) [hT : SliceT Try.prog t 65 10] [hT2 : Under Try.prog t2 (.slice 65)]
    (hx : ev n Γ ρ x = .slice s.ad l.length s.cap) (hy : ev n Γ ρ y = .slice a m.length c) (hr : ∀ L, RdR W0 L a m) (hg0 : ∃ g, s.a = some g) (hroom : l.length + m.length ≤ 1000000)
    (hk : ∀ (s' : OS) w', s'.ok (flatR (l ++ m)) (l ++ m).length 10 → (∃ g, s'.a = some g) → St W0 w' (s'.blk (flatR (l ++ m)) 65 ++ R) → K (act n ((d, .slice s'.ad (l ++ m).length s'.cap) :: Γ) ρ ds) w') :
    OW Try.prog ⟨some d, .call ⟨.builtin .append, #[x, y], #[t, t2]⟩, ty, pos, after, g⟩ (act n Γ ρ ds) w K Q := by
  obtain ⟨g, hg⟩ := hg0
  refine w_appendG (sz := 10) (bs := 80) [] hs hok hx hy rfl (fun w1 h1 => rdR_first (hr _) h1 c) (flatR_len m) (flatR_one m) (.inr (by rw [hg]; simp)) (by decide) (by omega) (fun s' w' h1 h2 h3 => ?_)
  · have e1 : (l ++ m).length = l.length + m.length := List.length_append
    have e2 := flatR_append l m
    have := hk s' w' (by rw [e1, e2]; exact h1) h2 (by rw [e2]; exact h3)
    rw [e1] at this
    exact this
end Go.Proofs.Ytfjniocobcoepaa
