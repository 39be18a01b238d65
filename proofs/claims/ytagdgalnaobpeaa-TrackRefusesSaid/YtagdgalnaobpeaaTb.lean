/- Facts on the functions and types of this seat that its laws are proved from: contracts under the premises that each theorem names. -/
import Derived.Test.YtagdgalnaobpeaaTa
set_option linter.unusedSimpArgs false
set_option linter.unusedVariables false
set_option linter.unnecessarySimpa false
namespace Go.Proofs.Ytagdgalnaobpeaa
open Go Go.RowKit PB
set_option linter.unusedVariables false
set_option linter.unusedSimpArgs false

/-! ### Bytes in slices -/
abbrev BL (l : List Nat) : List Value := l.map U8
abbrev twoB (n : Nat) : List Nat := [n / 2 ^ 8 % 256, n % 256]
/-- The bytes of a string. -/
def bytesOf (s : ByteArray) : List Nat := s.data.toList.map UInt8.toNat
theorem bytesOf_len (s : ByteArray) : (bytesOf s).length = s.size := by
  show _ = s.data.size
  simp [bytesOf]
theorem strB_bytesOf (s : ByteArray) : strB (bytesOf s) = s := by
  apply ByteArray.ext
  have : UInt8.ofNat ∘ UInt8.toNat = id := by funext b; simp
  simp [strB, bytesOf, this]
theorem BL_one (l : List Nat) : (BL l).all oneB = true := by
  refine List.all_eq_true.2 fun v hv => ?_
  obtain ⟨b, _, rfl⟩ := List.mem_map.1 hv
  rfl
theorem BL_len (l : List Nat) : (BL l).length = l.length := by simp
section
variable {W0 w : World} {R : List (Nat × MObj)} {Q : Exit → Act → World → Prop} {K : Act → World → Prop} {n : Nat} {Γ : Fr} {ρ : Nat → Value} {ds : List Deferred} {ty t : TypeId} {pos : String} {after : Array Edge} {g : Option (Nat × Bool)} {d : Nat} {x y : Operand}
theorem w_appB {s : OS} {c k len b : Nat} {t2 : TypeId} (l m : List Nat)
    (hs : St W0 w ((b, .cells (BL m) 5) :: (s.blk (BL l) 5 ++ R))) (hok : s.ok (BL l) len 1) [hT : SliceT Try.prog t 5 1] [hT2 : Under Try.prog t2 (.slice 5)]
    (hx : ev n Γ ρ x = .slice s.ad len s.cap) (hy : ev n Γ ρ y = .slice (some ⟨b, 0, none⟩) k c) (hmk : m.length = k) (hg0 : ∃ g, s.a = some g) (hroom : len + k ≤ 1000000)
    (hk : ∀ (s' : OS) w', s'.ok (BL (l ++ m)) (len + k) 1 → (∃ g, s'.a = some g) → St W0 w' (s'.blk (BL (l ++ m)) 5 ++ R) → K (act n ((d, .slice s'.ad (len + k) s'.cap) :: Γ) ρ ds) w') :
    OW Try.prog ⟨some d, .call ⟨.builtin .append, #[x, y], #[t, t2]⟩, ty, pos, after, g⟩ (act n Γ ρ ds) w K Q := by
  obtain ⟨g, hg⟩ := hg0
  refine w_appendG (sz := 1) (bs := 1) (ys := BL m) [(b, .cells (BL m) 5)] hs hok hx hy rfl (fun w1 h1 => ?_) (by rw [BL_len]; omega) (BL_one m) (.inr (by rw [hg]; simp)) (by decide) (by omega) (fun s' w' h1 h2 h3 => ?_)
  · have := run_firstCells (P := Try.prog) (k := 1) (o := 0) (m := k) (c := c) h1 (List.mem_cons_self ..) (by rw [BL_len]; omega)
    rw [this, List.drop_zero, List.take_of_length_le (by rw [BL_len]; omega)]
  · have e : BL (l ++ m) = BL l ++ BL m := List.map_append
    rw [← e] at h1 h3
    exact hk s' w' h1 h2 (h3.sub (List.sublist_cons_self ..))
theorem w_appT {s : OS} {len : Nat} {t2 : TypeId} (l : List Nat) (str : ByteArray)
    (hs : St W0 w (s.blk (BL l) 5 ++ R)) (hok : s.ok (BL l) len 1) [hT : SliceT Try.prog t 5 1] [hT2 : Under Try.prog t2 .string]
    (hx : ev n Γ ρ x = .slice s.ad len s.cap) (hy : ev n Γ ρ y = .string str) (hg0 : ∃ g, s.a = some g) (hroom : len + str.size ≤ 1000000)
    (hk : ∀ (s' : OS) w', s'.ok (BL (l ++ bytesOf str)) (len + str.size) 1 → (∃ g, s'.a = some g) → St W0 w' (s'.blk (BL (l ++ bytesOf str)) 5 ++ R) → K (act n ((d, .slice s'.ad (len + str.size) s'.cap) :: Γ) ρ ds) w') :
    OW Try.prog ⟨some d, .call ⟨.builtin .append, #[x, y], #[t, t2]⟩, ty, pos, after, g⟩ (act n Γ ρ ds) w K Q := by
  obtain ⟨g, hg⟩ := hg0
  refine w_appendS (bs := 1) (ys := BL (bytesOf str)) [] hs hok hx hy rfl rfl (by simp [BL, bytesOf]) (.inr (by rw [hg]; simp)) (by decide) (by omega) (fun s' w' h1 h2 h3 => ?_)
  have e : BL (l ++ bytesOf str) = BL l ++ BL (bytesOf str) := List.map_append
  rw [← e] at h1 h3
  exact hk s' w' h1 h2 h3
end
theorem ok2 {b : Nat} (l : List Nat) {k : Nat} (h : l.length = k) : (⟨some b, k, []⟩ : OS).ok (BL l) k 1 := ⟨by rw [BL_len]; omega, by simp, Nat.le_refl _, fun h => by cases h⟩
theorem St.blk0 {W0 w : World} {R : List (Nat × MObj)} {b k : Nat} {l : List Nat} {e : TypeId} (hs : St W0 w ((b, .cells (BL l) e) :: R)) : St W0 w ((⟨some b, k, []⟩ : OS).blk (BL l) e ++ R) := by
  simpa [OS.blk] using hs
theorem St.blk1 {W0 w : World} {R : List (Nat × MObj)} {p : Nat × MObj} {b k : Nat} {l : List Nat} {e : TypeId} (hs : St W0 w (p :: (b, .cells (BL l) e) :: R)) : St W0 w (p :: ((⟨some b, k, []⟩ : OS).blk (BL l) e ++ R)) := by
  simpa [OS.blk] using hs

theorem os_ev {s : OS} {g k c : Nat} (h : s.a = some g) : Value.slice s.ad k c = .slice (some ⟨g, 0, none⟩) k c := by simp [OS.ad, h]

/-! ### sealed -/
theorem sealed_c {W0 w : World} {L : List (Nat × MObj)} (a b : Nat) (s : ByteArray) (hsz : s.size ≤ 50000) (hs : St W0 w L) :
    FnC Try.prog 38 [U32 a, U32 b, .string s] w (fun v w' => (∃ n : Nat, v = I64 n ∧ n ≤ 65535) ∧ St W0 w' L) := by
  refine FnC.enter Try.func38 rfl Try.ntmps38 rfl fun ρ => ?_
  refine s_seq ?_
  refine s_reg ?_
  refine l_q (by exact y_as_int rfl) ?_
  refine l_end ?_
  refine e_then ?_
  refine s_seq ?_
  refine s_reg ?_
  refine l_q (by exact y_mv_int rfl) ?_
  refine l_w (w_call rfl (four_c a hs) rfl (fun _ w h => ?_))
  obtain ⟨b9, rfl, hs⟩ := h
  refine l_q (by exact y_mv_int rfl) ?_
  refine l_w (w_call rfl (four_c b hs) rfl (fun _ w h => ?_))
  obtain ⟨b11, rfl, hs⟩ := h
  refine l_w (w_appB (s := ⟨some b9, 4, []⟩) (fourB a) (fourB b) (St.blk1 hs) (ok2 _ rfl) rfl rfl rfl ⟨_, rfl⟩ (by omega) (fun s1 w ok1 hg1 hs => ?_))
  refine l_q (by exact y_as_slice rfl) ?_
  refine l_end ?_
  refine e_then ?_
  refine s_seq ?_
  refine s_reg ?_
  refine l_q (by exact y_mv_slice rfl) ?_
  refine l_w (w_buildSlice (pv := [(0, .int .u8 _), (1, .int .u8 _)]) (vs := [_, _]) hs rfl rfl rfl rfl (fun b14 w hs hb14 => ?_))
  refine l_w (w_appB (fourB a ++ fourB b) [0, 6] hs ok1 rfl rfl rfl hg1 (by omega) (fun s2 w ok2 hg2 hs => ?_))
  refine l_q (by exact y_as_slice rfl) ?_
  refine l_end ?_
  refine e_then ?_
  refine s_seq ?_
  refine s_reg ?_
  refine l_q (by exact y_mv_slice rfl) ?_
  refine l_q (by exact y_mv_str rfl) ?_
  refine l_q (by exact y_len_str rfl) ?_
  refine l_w (w_call rfl (two_c s.size hs) rfl (fun _ w h => ?_))
  obtain ⟨b19, rfl, hs⟩ := h
  refine l_w (w_appB (fourB a ++ fourB b ++ [0, 6]) (twoB s.size) hs ok2 rfl rfl rfl hg2 (by omega) (fun s3 w ok3 hg3 hs => ?_))
  obtain ⟨g3, hg3⟩ := hg3; have hi3 := inl_blk hg3 (BL (fourB a ++ fourB b ++ [0, 6] ++ twoB s.size)) 5
  refine l_q (by exact y_as_slice rfl) ?_
  refine l_end ?_
  refine e_then ?_
  refine s_seq ?_
  refine s_reg ?_
  refine l_q (by exact y_mv_slice rfl) ?_
  refine l_q (by exact y_b2s (b := g3) (l := fourB a ++ fourB b ++ [0, 6] ++ twoB s.size) hs (os_ev hg3) rfl (List.take_left' rfl) rfl) ?_
  refine l_q (by exact y_mv_str rfl) ?_
  refine l_q (by exact y_str_add rfl rfl (by rw [strB_size]; show 12 + s.size ≤ _; omega)) ?_
  refine l_w (w_call rfl (sum_c _ (by rw [ByteArray.size_append, strB_size]; show 12 + s.size ≤ _; omega) w) rfl (fun _ w h => ?_))
  obtain ⟨⟨n, rfl, hn⟩, rfl⟩ := h
  refine l_q (by exact y_as_int rfl) ?_
  refine l_end ?_
  refine e_then ?_
  refine s_ret ?_
  exact ret_ [.int .i64 _] rfl ⟨rfl, trivial⟩ ⟨⟨n, rfl, hn⟩, hs.subl⟩
end Go.Proofs.Ytagdgalnaobpeaa
