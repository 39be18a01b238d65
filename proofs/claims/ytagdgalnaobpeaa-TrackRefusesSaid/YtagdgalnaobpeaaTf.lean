/- Facts on the functions and types of this seat that its laws are proved from: contracts under the premises that each theorem names. -/
import Derived.Test.YtagdgalnaobpeaaTe
set_option linter.unusedSimpArgs false
set_option linter.unusedVariables false
set_option linter.unnecessarySimpa false
namespace Go.Proofs.Ytagdgalnaobpeaa
open Go Go.RowKit PB
set_option linter.unusedVariables false
set_option linter.unusedSimpArgs false

theorem byteF_strB {l : List Nat} {i : Nat} (h : i < l.length) : byteF (strB l) i = l[i] % 256 := by
  have hs : i < (strB l).size := by rw [strB_size]; exact h
  unfold byteF; rw [dif_pos hs]
  show ((strB l).data[i]).toNat = _
  simp [strB]
/-- The flags of a packet. -/
def flagF (p : PktV) : Nat := if p.proto = 6 ∧ 12 < p.body.size then byteF p.body 12 else 0
/-- A packet between two endpoints. -/
structure IsP (p : PktV) (sa sp da dp : Nat) (proto : Int) (flags : Nat) : Prop where
  src : p.src = sa
  dst : p.dst = da
  pr : p.proto = proto
  has : hasPorts p
  pa : portA p = sp
  pb : portB p = dp
  chk : pChk p = 0
  fits : p.fits
  fl : flagF p = flags
def mkP (sa da : Nat) (proto : Int) (body : ByteArray) : PktV := ⟨sa, da, proto, 9, 0, 0, false, false, body⟩
theorem mk_chk {sa da : Nat} {proto : Int} {body : ByteArray} (h : proto = 6 ∨ proto = 17) (h2 : body.size ≤ 1500) : pChk (mkP sa da proto body) = 0 := by
  unfold pChk
  rw [if_neg, if_neg, if_neg]
  · simp [bad3, mkP]
  · simp [bad2, mkP]; omega
  · simp [bad1, mkP]; omega
theorem seg_is (sa sp da dp f n : Nat) (body : ByteArray) (h0 : sa < 4294967296) (h00 : da < 4294967296) (h1 : sp ≤ 65535) (h2 : dp ≤ 65535) (h3 : f < 256) (h4 : body.size ≤ 1024) : IsP (mkP sa da 6 (strB (segE sp dp f n body))) sa sp da dp 6 f := by
  have hl := segE_len sp dp f n body
  have hz : (mkP sa da 6 (strB (segE sp dp f n body))).body.size = 18 + body.size := by show (strB _).size = _; rw [strB_size, hl]
  have hh : hasPorts (mkP sa da 6 (strB (segE sp dp f n body))) := ⟨.inl rfl, rfl, by rw [hz]; omega⟩
  have b0 : byteF (strB (segE sp dp f n body)) 0 = sp / 2 ^ 8 % 256 % 256 := byteF_strB (by omega)
  have b1 : byteF (strB (segE sp dp f n body)) 1 = sp % 256 % 256 := byteF_strB (by omega)
  have b2 : byteF (strB (segE sp dp f n body)) 2 = dp / 2 ^ 8 % 256 % 256 := byteF_strB (by omega)
  have b3 : byteF (strB (segE sp dp f n body)) 3 = dp % 256 % 256 := byteF_strB (by omega)
  have b12 : byteF (strB (segE sp dp f n body)) 12 = f % 256 % 256 := byteF_strB (by omega)
  refine ⟨rfl, rfl, rfl, hh, ?_, ?_, mk_chk (.inl rfl) (by rw [strB_size, hl]; omega), ⟨h0, h00, by rw [hz]; omega⟩, ?_⟩
  · rw [portA, if_pos hh]; show byteF (strB _) 0 * 256 + byteF (strB _) 1 = _; rw [b0, b1]; omega
  · rw [portB, if_pos hh]; show byteF (strB _) 2 * 256 + byteF (strB _) 3 = _; rw [b2, b3]; omega
  · rw [flagF, if_pos ⟨rfl, by rw [hz]; omega⟩]; show byteF (strB _) 12 = _; rw [b12]; omega
theorem dg_is (sa sp da dp n : Nat) (body : ByteArray) (h0 : sa < 4294967296) (h00 : da < 4294967296) (h1 : sp ≤ 65535) (h2 : dp ≤ 65535) (h4 : body.size ≤ 1024) : IsP (mkP sa da 17 (strB (dgE sp dp n body))) sa sp da dp 17 0 := by
  have hl : (dgE sp dp n body).length = 8 + body.size := by rw [← bytesOf_len body]; simp [dgE, twoB, bytesOf_len]; omega
  have hz : (mkP sa da 17 (strB (dgE sp dp n body))).body.size = 8 + body.size := by show (strB _).size = _; rw [strB_size, hl]
  have hh : hasPorts (mkP sa da 17 (strB (dgE sp dp n body))) := ⟨.inr rfl, rfl, by rw [hz]; omega⟩
  have b0 : byteF (strB (dgE sp dp n body)) 0 = sp / 2 ^ 8 % 256 % 256 := byteF_strB (by omega)
  have b1 : byteF (strB (dgE sp dp n body)) 1 = sp % 256 % 256 := byteF_strB (by omega)
  have b2 : byteF (strB (dgE sp dp n body)) 2 = dp / 2 ^ 8 % 256 % 256 := byteF_strB (by omega)
  have b3 : byteF (strB (dgE sp dp n body)) 3 = dp % 256 % 256 := byteF_strB (by omega)
  refine ⟨rfl, rfl, rfl, hh, ?_, ?_, mk_chk (.inr rfl) (by rw [strB_size, hl]; omega), ⟨h0, h00, by rw [hz]; omega⟩, ?_⟩
  · rw [portA, if_pos hh]; show byteF (strB _) 0 * 256 + byteF (strB _) 1 = _; rw [b0, b1]; omega
  · rw [portB, if_pos hh]; show byteF (strB _) 2 * 256 + byteF (strB _) 3 = _; rw [b2, b3]; omega
  · rw [flagF, if_neg]; rintro ⟨h, _⟩; cases h

/-! ### Makers of packets -/
abbrev endV (a p : Nat) : Value := .agg #[U32 a, I64 p]
theorem flagged_c {W0 w : World} {L : List (Nat × MObj)} (sa sp da dp f : Nat) (h0 : sa < 4294967296) (h00 : da < 4294967296) (h1 : sp ≤ 65535) (h2 : dp ≤ 65535) (h3 : FlagOk f) (hf : f < 256) (hs : St W0 w L) :
    FnC Try.prog 12 [endV sa sp, endV da dp, I64 f] w (fun v w' => ∃ p : PktV, v = .agg p.cells.toArray ∧ IsP p sa sp da dp 6 f ∧ St W0 w' L) := by
  refine FnC.enter Try.func12 rfl Try.ntmps12 rfl fun ρ => ?_
  refine s_seq ?_
  refine s_reg ?_
  refine l_w (w_boxA (vs := [U32 sa, I64 sp]) hs rfl (fun b3 w hs hb3 => ?_))
  refine l_w (w_boxA (vs := [U32 da, I64 dp]) hs rfl (fun b4 w hs hb4 => ?_))
  refine l_w (w_alloc (cs := [_, _, _, _, _, _, _, _, _]) hs rfl (fun b6 w hs hb6 => ?_))
  refine l_end ?_
  refine e_then ?_
  refine s_seq ?_
  refine s_reg ?_
  refine l_q (by exact y_field rfl) ?_
  refine l_q (by exact y_ld hs rfl rfl) ?_
  refine l_q (by exact y_field rfl) ?_
  refine l_q (by exact y_ld hs rfl rfl) ?_
  refine l_q (by exact y_build (pv := [(0, .int .u32 _), (1, .int .u32 _), (2, .int .i64 _), (3, .int .i64 _)]) (vs := [_, _, _, _, _, _, _, _, _]) rfl rfl) ?_
  refine l_w (w_alloc (cs := [_, _, _, _, _, _, _, _, _]) hs rfl (fun b7 w hs hb7 => ?_))
  refine l_w (w_storeA (vs := [_, _, _, _, _, _, _, _, _]) hs rfl rfl rfl rfl rfl (fun w hs => ?_))
  refine l_end ?_
  refine e_then ?_
  refine s_seq ?_
  refine s_reg ?_
  refine l_q (by exact y_field rfl) ?_
  refine l_q (by exact y_ld hs rfl rfl) ?_
  refine l_q (by exact y_field rfl) ?_
  refine l_q (by exact y_ld hs rfl rfl) ?_
  refine l_q (by exact y_field rfl) ?_
  refine l_q (by exact y_ld hs rfl rfl) ?_
  refine l_q (by exact y_field rfl) ?_
  refine l_q (by exact y_ld hs rfl rfl) ?_
  refine l_q (by exact y_mv_int rfl) ?_
  refine l_q (by exact y_build (pv := [(0, .int .i64 _), (1, .int .i64 _), (4, .int .i64 _)]) (vs := [_, _, _, _, _, _, _, _]) rfl rfl) ?_
  refine l_w (w_call rfl (segenc_c sa da sp dp f (strB []) h1 h2 h3 (by decide) hs) rfl (fun _ w h => ?_))
  obtain ⟨n, rfl, hs⟩ := h
  refine l_q (by exact y_mv_tuple rfl) ?_
  refine l_q (by exact y_extract rfl rfl) ?_
  refine l_q (by exact y_extract rfl rfl) ?_
  refine l_q (by exact y_field rfl) ?_
  refine l_w (w_store (v := .string _) hs rfl rfl rfl rfl (fun w hs => ?_))
  refine l_end ?_
  refine e_then ?_
  refine s_seq ?_
  refine s_reg ?_
  refine l_q (by exact y_ldA (vs := [_, _, _, _, _, _, _, _, _]) hs rfl rfl rfl) ?_
  refine l_w (w_storeA (vs := [_, _, _, _, _, _, _, _, _]) hs rfl rfl rfl rfl rfl (fun w hs => ?_))
  refine l_end ?_
  refine e_then ?_
  refine s_ret ?_
  exact ret_ [.agg (List.toArray [_, _, _, _, _, _, _, _, _])] rfl ⟨⟨_, rfl, run_ldA hs rfl rfl⟩, trivial⟩ ⟨mkP sa da 6 (strB (segE sp dp f n (strB []))), rfl, seg_is _ _ _ _ _ _ _ h0 h00 h1 h2 hf (by decide), hs.subl⟩

theorem packed_c {W0 w : World} {L : List (Nat × MObj)} (sa sp da dp : Nat) (stream : Bool) (body : ByteArray) (h0 : sa < 4294967296) (h00 : da < 4294967296) (h1 : sp ≤ 65535) (h2 : dp ≤ 65535) (h4 : body.size ≤ 1024) (hs : St W0 w L) :
    FnC Try.prog 17 [endV sa sp, endV da dp, .bool stream, .string body] w (fun v w' => ∃ p : PktV, v = .agg p.cells.toArray ∧ IsP p sa sp da dp (if stream then 6 else 17) (if stream then 2 else 0) ∧ St W0 w' L) := by
  refine FnC.enter Try.func17 rfl Try.ntmps17 rfl fun ρ => ?_
  cases stream
  · refine s_seq ?_
    refine s_reg ?_
    refine l_w (w_boxA (vs := [U32 sa, I64 sp]) hs rfl (fun b4 w hs hb4 => ?_))
    refine l_w (w_boxA (vs := [U32 da, I64 dp]) hs rfl (fun b5 w hs hb5 => ?_))
    refine l_w (w_alloc (cs := [_, _, _, _, _, _, _, _, _]) hs rfl (fun b8 w hs hb8 => ?_))
    refine l_end ?_
    refine e_then ?_
    refine s_seq ?_
    refine s_reg ?_
    refine l_q (by exact y_field rfl) ?_
    refine l_q (by exact y_ld hs rfl rfl) ?_
    refine l_q (by exact y_field rfl) ?_
    refine l_q (by exact y_ld hs rfl rfl) ?_
    refine l_q (by exact y_build (pv := [(0, .int .u32 _), (1, .int .u32 _), (2, .int .i64 _), (3, .int .i64 _)]) (vs := [_, _, _, _, _, _, _, _, _]) rfl rfl) ?_
    refine l_w (w_alloc (cs := [_, _, _, _, _, _, _, _, _]) hs rfl (fun b9 w hs hb9 => ?_))
    refine l_w (w_storeA (vs := [_, _, _, _, _, _, _, _, _]) hs rfl rfl rfl rfl rfl (fun w hs => ?_))
    refine l_end ?_
    refine e_then ?_
    refine s_seq ?_
    refine s_seq ?_
    refine s_reg ?_
    refine l_q (by exact y_mv_bool rfl) ?_
    refine l_end ?_
    refine e_then ?_
    refine cond_f rfl ?_
    refine s_reg ?_
    refine l_q (by exact y_field rfl) ?_
    refine l_q (by exact y_ld hs rfl rfl) ?_
    refine l_q (by exact y_field rfl) ?_
    refine l_q (by exact y_ld hs rfl rfl) ?_
    refine l_q (by exact y_field rfl) ?_
    refine l_q (by exact y_ld hs rfl rfl) ?_
    refine l_q (by exact y_field rfl) ?_
    refine l_q (by exact y_ld hs rfl rfl) ?_
    refine l_q (by exact y_mv_str rfl) ?_
    refine l_q (by exact y_build (pv := [(0, .int .i64 _), (1, .int .i64 _), (2, .string _)]) (vs := [_, _, _]) rfl rfl) ?_
    refine l_w (w_call rfl (dgenc_c sa da sp dp body h0 h00 h1 h2 h4 hs) rfl (fun _ w h => ?_))
    obtain ⟨n, rfl, hs⟩ := h
    refine l_q (by exact y_mv_tuple rfl) ?_
    refine l_q (by exact y_extract rfl rfl) ?_
    refine l_q (by exact y_extract rfl rfl) ?_
    refine l_q (by exact y_field rfl) ?_
    refine l_w (w_store (v := .string _) hs rfl rfl rfl rfl (fun w hs => ?_))
    refine l_end ?_
    refine e_then ?_
    refine s_seq ?_
    refine s_reg ?_
    refine l_q (by exact y_ldA (vs := [_, _, _, _, _, _, _, _, _]) hs rfl rfl rfl) ?_
    refine l_w (w_storeA (vs := [_, _, _, _, _, _, _, _, _]) hs rfl rfl rfl rfl rfl (fun w hs => ?_))
    refine l_end ?_
    refine e_then ?_
    refine s_ret ?_
    exact ret_ [.agg (List.toArray [_, _, _, _, _, _, _, _, _])] rfl ⟨⟨_, rfl, run_ldA hs rfl rfl⟩, trivial⟩ ⟨mkP sa da 17 (strB (dgE sp dp n body)), rfl, dg_is _ _ _ _ _ _ h0 h00 h1 h2 h4, hs.subl⟩
  · refine s_seq ?_
    refine s_reg ?_
    refine l_w (w_boxA (vs := [U32 sa, I64 sp]) hs rfl (fun b4 w hs hb4 => ?_))
    refine l_w (w_boxA (vs := [U32 da, I64 dp]) hs rfl (fun b5 w hs hb5 => ?_))
    refine l_w (w_alloc (cs := [_, _, _, _, _, _, _, _, _]) hs rfl (fun b8 w hs hb8 => ?_))
    refine l_end ?_
    refine e_then ?_
    refine s_seq ?_
    refine s_reg ?_
    refine l_q (by exact y_field rfl) ?_
    refine l_q (by exact y_ld hs rfl rfl) ?_
    refine l_q (by exact y_field rfl) ?_
    refine l_q (by exact y_ld hs rfl rfl) ?_
    refine l_q (by exact y_build (pv := [(0, .int .u32 _), (1, .int .u32 _), (2, .int .i64 _), (3, .int .i64 _)]) (vs := [_, _, _, _, _, _, _, _, _]) rfl rfl) ?_
    refine l_w (w_alloc (cs := [_, _, _, _, _, _, _, _, _]) hs rfl (fun b9 w hs hb9 => ?_))
    refine l_w (w_storeA (vs := [_, _, _, _, _, _, _, _, _]) hs rfl rfl rfl rfl rfl (fun w hs => ?_))
    refine l_end ?_
    refine e_then ?_
    refine s_seq ?_
    refine s_seq ?_
    refine s_reg ?_
    refine l_q (by exact y_mv_bool rfl) ?_
    refine l_end ?_
    refine e_then ?_
    refine cond_t rfl ?_
    refine s_seq ?_
    refine s_reg ?_
    refine l_q (by exact y_field rfl) ?_
    refine l_w (w_store (v := .int .i64 _) hs rfl rfl rfl rfl (fun w hs => ?_))
    refine l_end ?_
    refine e_then ?_
    refine s_reg ?_
    refine l_q (by exact y_field rfl) ?_
    refine l_q (by exact y_ld hs rfl rfl) ?_
    refine l_q (by exact y_field rfl) ?_
    refine l_q (by exact y_ld hs rfl rfl) ?_
    refine l_q (by exact y_field rfl) ?_
    refine l_q (by exact y_ld hs rfl rfl) ?_
    refine l_q (by exact y_field rfl) ?_
    refine l_q (by exact y_ld hs rfl rfl) ?_
    refine l_q (by exact y_mv_str rfl) ?_
    refine l_q (by exact y_build (pv := [(0, .int .i64 _), (1, .int .i64 _), (4, .int .i64 _), (7, .string _)]) (vs := [_, _, _, _, _, _, _, _]) rfl rfl) ?_
    refine l_w (w_call rfl (segenc_c sa da sp dp 2 body h1 h2 rfl h4 hs) rfl (fun _ w h => ?_))
    obtain ⟨n, rfl, hs⟩ := h
    refine l_q (by exact y_mv_tuple rfl) ?_
    refine l_q (by exact y_extract rfl rfl) ?_
    refine l_q (by exact y_extract rfl rfl) ?_
    refine l_q (by exact y_field rfl) ?_
    refine l_w (w_store (v := .string _) hs rfl rfl rfl rfl (fun w hs => ?_))
    refine l_end ?_
    refine e_then ?_
    refine s_seq ?_
    refine s_reg ?_
    refine l_q (by exact y_ldA (vs := [_, _, _, _, _, _, _, _, _]) hs rfl rfl rfl) ?_
    refine l_w (w_storeA (vs := [_, _, _, _, _, _, _, _, _]) hs rfl rfl rfl rfl rfl (fun w hs => ?_))
    refine l_end ?_
    refine e_then ?_
    refine s_ret ?_
    exact ret_ [.agg (List.toArray [_, _, _, _, _, _, _, _, _])] rfl ⟨⟨_, rfl, run_ldA hs rfl rfl⟩, trivial⟩ ⟨mkP sa da 6 (strB (segE sp dp 2 n body)), rfl, seg_is _ _ _ _ _ _ _ h0 h00 h1 h2 (by decide) h4, hs.subl⟩
end Go.Proofs.Ytagdgalnaobpeaa
