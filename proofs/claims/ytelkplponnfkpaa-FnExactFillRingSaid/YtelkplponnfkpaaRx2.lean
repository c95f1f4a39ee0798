/- Contracts of SuperOk of both. -/
import Derived.Test.YtelkplponnfkpaaRows
import Derived.Test.YtelkplponnfkpaaRx
namespace Go.Proofs.Ytelkplponnfkpaa
open Go.RowKit
set_option linter.unusedVariables false

theorem andnot9 {fl : Int} (h0 : 0 ≤ fl) (h1 : fl ≤ 31) {q : Bool} (h : streamB fl = q) : (bits BinOp.andNot IntKind.i64 fl 9 == 16) = q := by
  obtain ⟨n, rfl⟩ := Int.eq_ofNat_of_zero_le h0
  have hf := (flag_facts ⟨n, by omega⟩).2.2
  simp only at hf
  rw [hf, ← h, Bool.eq_iff_iff]; simp [streamB]; omega

set_option maxRecDepth 100000 in
set_option maxHeartbeats 4000000 in
theorem superOk_any (dm sm vl tos id ttl si di kind sp dp seq ack fl win : Int) (bd : ByteArray) (hb : bd.size ≤ maxLen) (w : World) :
    Calls Try.prog 135 #[.agg #[.int .i64 dm, .int .i64 sm, .int .i64 vl, .int .i64 tos, .int .i64 id, .int .i64 ttl, .int .i64 si, .int .i64 di, .int .i64 kind, .int .i64 sp, .int .i64 dp, .int .i64 seq, .int .i64 ack, .int .i64 fl, .int .i64 win, .string bd]] w fun e w' => e = .returned (.bool (superOkB dm sm vl tos id ttl si di kind sp dp seq ack fl win bd.size)) ∧ Ex w w' := by
  have hb2 := hb
  unfold maxLen at hb2
  cases q1 : inB dm 0 281474976710655
  case false =>
    have H1 := hid q1
    clear q1
    go_enter Try.func135, Try.ntmps135
    go_wp2_with (first
          | (go_at_call 62; (first | (with_reducible refine (between_v H1.out _).mono ?_)); rintro e w' ⟨rfl, rfl⟩))
    go_ret
    exact ⟨ret_bool (by simp [superOkB, H1.out]), (by repeat (first | (with_reducible exact Ex.refl _) | (with_reducible apply Ex.plus_add) | (with_reducible apply Ex.plus_drew) | (with_reducible apply Ex.plus) | (with_reducible apply Ex.alloc) | (with_reducible apply Ex.drew)))⟩
  case true =>
  have H1 := hid q1
  obtain ⟨b_dm_0, b_dm_1⟩ := inB_iff.1 q1
  clear q1
  cases q2 : inB sm 0 281474976710655
  case false =>
    have H2 := hid q2
    clear q2
    go_enter Try.func135, Try.ntmps135
    go_wp2_with (first
          | (go_at_call 62; (first | (with_reducible refine (between_v H1.out _).mono ?_) | (with_reducible refine (between_v H2.out _).mono ?_)); rintro e w' ⟨rfl, rfl⟩))
    go_ret
    exact ⟨ret_bool (by simp [superOkB, H1.out, H2.out]), (by repeat (first | (with_reducible exact Ex.refl _) | (with_reducible apply Ex.plus_add) | (with_reducible apply Ex.plus_drew) | (with_reducible apply Ex.plus) | (with_reducible apply Ex.alloc) | (with_reducible apply Ex.drew)))⟩
  case true =>
  have H2 := hid q2
  obtain ⟨b_sm_0, b_sm_1⟩ := inB_iff.1 q2
  clear q2
  cases q3 : inB vl (-1) 4095
  case false =>
    have H3 := hid q3
    clear q3
    go_enter Try.func135, Try.ntmps135
    go_wp2_with (first
          | (go_at_call 62; (first | (with_reducible refine (between_v H1.out _).mono ?_) | (with_reducible refine (between_v H2.out _).mono ?_) | (with_reducible refine (between_v H3.out _).mono ?_)); rintro e w' ⟨rfl, rfl⟩))
    go_ret
    exact ⟨ret_bool (by simp [superOkB, H1.out, H2.out, H3.out]), (by repeat (first | (with_reducible exact Ex.refl _) | (with_reducible apply Ex.plus_add) | (with_reducible apply Ex.plus_drew) | (with_reducible apply Ex.plus) | (with_reducible apply Ex.alloc) | (with_reducible apply Ex.drew)))⟩
  case true =>
  have H3 := hid q3
  obtain ⟨b_vl_0, b_vl_1⟩ := inB_iff.1 q3
  clear q3
  cases q4 : inB tos 0 255
  case false =>
    have H4 := hid q4
    clear q4
    go_enter Try.func135, Try.ntmps135
    go_wp2_with (first
          | (go_at_call 62; (first | (with_reducible refine (between_v H1.out _).mono ?_) | (with_reducible refine (between_v H2.out _).mono ?_) | (with_reducible refine (between_v H3.out _).mono ?_) | (with_reducible refine (between_v H4.out _).mono ?_)); rintro e w' ⟨rfl, rfl⟩))
    go_ret
    exact ⟨ret_bool (by simp [superOkB, H1.out, H2.out, H3.out, H4.out]), (by repeat (first | (with_reducible exact Ex.refl _) | (with_reducible apply Ex.plus_add) | (with_reducible apply Ex.plus_drew) | (with_reducible apply Ex.plus) | (with_reducible apply Ex.alloc) | (with_reducible apply Ex.drew)))⟩
  case true =>
  have H4 := hid q4
  obtain ⟨b_tos_0, b_tos_1⟩ := inB_iff.1 q4
  clear q4
  cases q5 : inB ttl 0 255
  case false =>
    have H5 := hid q5
    clear q5
    go_enter Try.func135, Try.ntmps135
    go_wp2_with (first
          | (go_at_call 62; (first | (with_reducible refine (between_v H1.out _).mono ?_) | (with_reducible refine (between_v H2.out _).mono ?_) | (with_reducible refine (between_v H3.out _).mono ?_) | (with_reducible refine (between_v H4.out _).mono ?_) | (with_reducible refine (between_v H5.out _).mono ?_)); rintro e w' ⟨rfl, rfl⟩))
    go_ret
    exact ⟨ret_bool (by simp [superOkB, H1.out, H2.out, H3.out, H4.out, H5.out]), (by repeat (first | (with_reducible exact Ex.refl _) | (with_reducible apply Ex.plus_add) | (with_reducible apply Ex.plus_drew) | (with_reducible apply Ex.plus) | (with_reducible apply Ex.alloc) | (with_reducible apply Ex.drew)))⟩
  case true =>
  have H5 := hid q5
  obtain ⟨b_ttl_0, b_ttl_1⟩ := inB_iff.1 q5
  clear q5
  cases q6 : inB id 0 65535
  case false =>
    have H6 := hid q6
    clear q6
    go_enter Try.func135, Try.ntmps135
    go_wp2_with (first
          | (go_at_call 62; (first | (with_reducible refine (between_v H1.out _).mono ?_) | (with_reducible refine (between_v H2.out _).mono ?_) | (with_reducible refine (between_v H3.out _).mono ?_) | (with_reducible refine (between_v H4.out _).mono ?_) | (with_reducible refine (between_v H5.out _).mono ?_) | (with_reducible refine (between_v H6.out _).mono ?_)); rintro e w' ⟨rfl, rfl⟩))
    go_ret
    exact ⟨ret_bool (by simp [superOkB, H1.out, H2.out, H3.out, H4.out, H5.out, H6.out]), (by repeat (first | (with_reducible exact Ex.refl _) | (with_reducible apply Ex.plus_add) | (with_reducible apply Ex.plus_drew) | (with_reducible apply Ex.plus) | (with_reducible apply Ex.alloc) | (with_reducible apply Ex.drew)))⟩
  case true =>
  have H6 := hid q6
  obtain ⟨b_id_0, b_id_1⟩ := inB_iff.1 q6
  clear q6
  cases q7 : inB si 0 4294967295
  case false =>
    have H7 := hid q7
    clear q7
    go_enter Try.func135, Try.ntmps135
    go_wp2_with (first
          | (go_at_call 62; (first | (with_reducible refine (between_v H1.out _).mono ?_) | (with_reducible refine (between_v H2.out _).mono ?_) | (with_reducible refine (between_v H3.out _).mono ?_) | (with_reducible refine (between_v H4.out _).mono ?_) | (with_reducible refine (between_v H5.out _).mono ?_) | (with_reducible refine (between_v H6.out _).mono ?_) | (with_reducible refine (between_v H7.out _).mono ?_)); rintro e w' ⟨rfl, rfl⟩))
    go_ret
    exact ⟨ret_bool (by simp [superOkB, H1.out, H2.out, H3.out, H4.out, H5.out, H6.out, H7.out]), (by repeat (first | (with_reducible exact Ex.refl _) | (with_reducible apply Ex.plus_add) | (with_reducible apply Ex.plus_drew) | (with_reducible apply Ex.plus) | (with_reducible apply Ex.alloc) | (with_reducible apply Ex.drew)))⟩
  case true =>
  have H7 := hid q7
  obtain ⟨b_si_0, b_si_1⟩ := inB_iff.1 q7
  clear q7
  cases q8 : inB di 0 4294967295
  case false =>
    have H8 := hid q8
    clear q8
    go_enter Try.func135, Try.ntmps135
    go_wp2_with (first
          | (go_at_call 62; (first | (with_reducible refine (between_v H1.out _).mono ?_) | (with_reducible refine (between_v H2.out _).mono ?_) | (with_reducible refine (between_v H3.out _).mono ?_) | (with_reducible refine (between_v H4.out _).mono ?_) | (with_reducible refine (between_v H5.out _).mono ?_) | (with_reducible refine (between_v H6.out _).mono ?_) | (with_reducible refine (between_v H7.out _).mono ?_) | (with_reducible refine (between_v H8.out _).mono ?_)); rintro e w' ⟨rfl, rfl⟩))
    go_ret
    exact ⟨ret_bool (by simp [superOkB, H1.out, H2.out, H3.out, H4.out, H5.out, H6.out, H7.out, H8.out]), (by repeat (first | (with_reducible exact Ex.refl _) | (with_reducible apply Ex.plus_add) | (with_reducible apply Ex.plus_drew) | (with_reducible apply Ex.plus) | (with_reducible apply Ex.alloc) | (with_reducible apply Ex.drew)))⟩
  case true =>
  have H8 := hid q8
  obtain ⟨b_di_0, b_di_1⟩ := inB_iff.1 q8
  clear q8
  cases q9 : segOkB kind sp dp seq ack fl win bd.size
  case false =>
    have H9 := hid q9
    clear q9
    go_enter Try.func135, Try.ntmps135
    go_wp2_with (first
          | (go_at_call 62; (first | (with_reducible refine (between_v H1.out _).mono ?_) | (with_reducible refine (between_v H2.out _).mono ?_) | (with_reducible refine (between_v H3.out _).mono ?_) | (with_reducible refine (between_v H4.out _).mono ?_) | (with_reducible refine (between_v H5.out _).mono ?_) | (with_reducible refine (between_v H6.out _).mono ?_) | (with_reducible refine (between_v H7.out _).mono ?_) | (with_reducible refine (between_v H8.out _).mono ?_)); rintro e w' ⟨rfl, rfl⟩)
          | (go_at_call 157; (first | (with_reducible refine (segOk_v hb H9.out _).mono ?_)); rintro e w' ⟨rfl, hx⟩; obtain ⟨g, rfl⟩ := hx))
    go_ret
    exact ⟨ret_bool (by simp [superOkB, H1.out, H2.out, H3.out, H4.out, H5.out, H6.out, H7.out, H8.out, H9.out]), (by repeat (first | (with_reducible exact Ex.refl _) | (with_reducible apply Ex.plus_add) | (with_reducible apply Ex.plus_drew) | (with_reducible apply Ex.plus) | (with_reducible apply Ex.alloc) | (with_reducible apply Ex.drew)))⟩
  case true =>
  have H9 := hid q9
  obtain ⟨fl0, fl1⟩ := segOk_fl q9
  clear q9
  cases q10 : decide (128 < bd.size)
  case false =>
    have H10 := hid q10
    have t128 : decide (128 < bd.size) = false := q10
    have u128 : decide ((128 : Int) < bd.size) = false := by simp at q10 ⊢; omega
    have v128 : decide ((bd.size : Int) ≤ 128) = true := by simp at q10 ⊢; omega
    have x128 : decide (bd.size ≤ 128) = true := by simp at q10 ⊢; omega
    clear q10
    go_enter Try.func135, Try.ntmps135
    go_wp2_with (first
          | (go_at_call 62; (first | (with_reducible refine (between_v H1.out _).mono ?_) | (with_reducible refine (between_v H2.out _).mono ?_) | (with_reducible refine (between_v H3.out _).mono ?_) | (with_reducible refine (between_v H4.out _).mono ?_) | (with_reducible refine (between_v H5.out _).mono ?_) | (with_reducible refine (between_v H6.out _).mono ?_) | (with_reducible refine (between_v H7.out _).mono ?_) | (with_reducible refine (between_v H8.out _).mono ?_)); rintro e w' ⟨rfl, rfl⟩)
          | (go_at_call 157; (first | (with_reducible refine (segOk_v hb H9.out _).mono ?_)); rintro e w' ⟨rfl, hx⟩; obtain ⟨g, rfl⟩ := hx))
    go_ret
    exact ⟨ret_bool (by simp [superOkB, H1.out, H2.out, H3.out, H4.out, H5.out, H6.out, H7.out, H8.out, H9.out, H10.out]), (by repeat (first | (with_reducible exact Ex.refl _) | (with_reducible apply Ex.plus_add) | (with_reducible apply Ex.plus_drew) | (with_reducible apply Ex.plus) | (with_reducible apply Ex.alloc) | (with_reducible apply Ex.drew)))⟩
  case true =>
  have H10 := hid q10
  have t128 : decide (128 < bd.size) = true := q10
  have u128 : decide ((128 : Int) < bd.size) = true := by simp at q10 ⊢; omega
  have v128 : decide ((bd.size : Int) ≤ 128) = false := by simp at q10 ⊢; omega
  have x128 : decide (bd.size ≤ 128) = false := by simp at q10 ⊢; omega
  clear q10
  cases q11 : (kind == 6)
  case false =>
    have H11 := hid q11
    have n_kind_6 : (kind != 6) = true := by simp at q11 ⊢; exact q11
    go_enter Try.func135, Try.ntmps135
    go_wp2_with (first
          | (go_at_call 62; (first | (with_reducible refine (between_v H1.out _).mono ?_) | (with_reducible refine (between_v H2.out _).mono ?_) | (with_reducible refine (between_v H3.out _).mono ?_) | (with_reducible refine (between_v H4.out _).mono ?_) | (with_reducible refine (between_v H5.out _).mono ?_) | (with_reducible refine (between_v H6.out _).mono ?_) | (with_reducible refine (between_v H7.out _).mono ?_) | (with_reducible refine (between_v H8.out _).mono ?_)); rintro e w' ⟨rfl, rfl⟩)
          | (go_at_call 157; (first | (with_reducible refine (segOk_v hb H9.out _).mono ?_)); rintro e w' ⟨rfl, hx⟩; obtain ⟨g, rfl⟩ := hx))
    go_ret
    exact ⟨ret_bool (by simp [superOkB, H1.out, H2.out, H3.out, H4.out, H5.out, H6.out, H7.out, H8.out, H9.out, H10.out, H11.out]), (by repeat (first | (with_reducible exact Ex.refl _) | (with_reducible apply Ex.plus_add) | (with_reducible apply Ex.plus_drew) | (with_reducible apply Ex.plus) | (with_reducible apply Ex.alloc) | (with_reducible apply Ex.drew)))⟩
  case true =>
  have H11 := hid q11
  have n_kind_6 : (kind != 6) = false := by simp at q11 ⊢; exact q11
  cases q12 : streamB fl
  case false =>
    have H12 := hid q12
    clear q12
    go_enter Try.func135, Try.ntmps135
    go_wp2_with (first
          | (go_at_call 62; (first | (with_reducible refine (between_v H1.out _).mono ?_) | (with_reducible refine (between_v H2.out _).mono ?_) | (with_reducible refine (between_v H3.out _).mono ?_) | (with_reducible refine (between_v H4.out _).mono ?_) | (with_reducible refine (between_v H5.out _).mono ?_) | (with_reducible refine (between_v H6.out _).mono ?_) | (with_reducible refine (between_v H7.out _).mono ?_) | (with_reducible refine (between_v H8.out _).mono ?_)); rintro e w' ⟨rfl, rfl⟩)
          | (go_at_call 157; (first | (with_reducible refine (segOk_v hb H9.out _).mono ?_)); rintro e w' ⟨rfl, hx⟩; obtain ⟨g, rfl⟩ := hx)
          | (go_at_call 158; (first | (with_reducible refine (streaming_v H12.out fl0 fl1 _).mono ?_)); rintro e w' ⟨rfl, rfl⟩))
    go_ret
    exact ⟨ret_bool (by simp [superOkB, H1.out, H2.out, H3.out, H4.out, H5.out, H6.out, H7.out, H8.out, H9.out, H10.out, H11.out, H12.out]), (by repeat (first | (with_reducible exact Ex.refl _) | (with_reducible apply Ex.plus_add) | (with_reducible apply Ex.plus_drew) | (with_reducible apply Ex.plus) | (with_reducible apply Ex.alloc) | (with_reducible apply Ex.drew)))⟩
  case true =>
  have H12 := hid q12
  clear q12
  go_enter Try.func135, Try.ntmps135
  go_wp2_with (first
        | (go_at_call 62; (first | (with_reducible refine (between_v H1.out _).mono ?_) | (with_reducible refine (between_v H2.out _).mono ?_) | (with_reducible refine (between_v H3.out _).mono ?_) | (with_reducible refine (between_v H4.out _).mono ?_) | (with_reducible refine (between_v H5.out _).mono ?_) | (with_reducible refine (between_v H6.out _).mono ?_) | (with_reducible refine (between_v H7.out _).mono ?_) | (with_reducible refine (between_v H8.out _).mono ?_)); rintro e w' ⟨rfl, rfl⟩)
        | (go_at_call 157; (first | (with_reducible refine (segOk_v hb H9.out _).mono ?_)); rintro e w' ⟨rfl, hx⟩; obtain ⟨g, rfl⟩ := hx)
        | (go_at_call 158; (first | (with_reducible refine (streaming_v H12.out fl0 fl1 _).mono ?_)); rintro e w' ⟨rfl, rfl⟩))
  go_ret
  exact ⟨ret_bool (by simp [superOkB, H1.out, H2.out, H3.out, H4.out, H5.out, H6.out, H7.out, H8.out, H9.out, H10.out, H11.out, H12.out]), (by repeat (first | (with_reducible exact Ex.refl _) | (with_reducible apply Ex.plus_add) | (with_reducible apply Ex.plus_drew) | (with_reducible apply Ex.plus) | (with_reducible apply Ex.alloc) | (with_reducible apply Ex.drew)))⟩

theorem superOk_v {dm sm vl tos id ttl si di kind sp dp seq ack fl win : Int} {bd : ByteArray} (hb : bd.size ≤ maxLen) {q : Bool} (h : superOkB dm sm vl tos id ttl si di kind sp dp seq ack fl win bd.size = q) (w : World) :
    Calls Try.prog 135 #[.agg #[.int .i64 dm, .int .i64 sm, .int .i64 vl, .int .i64 tos, .int .i64 id, .int .i64 ttl, .int .i64 si, .int .i64 di, .int .i64 kind, .int .i64 sp, .int .i64 dp, .int .i64 seq, .int .i64 ack, .int .i64 fl, .int .i64 win, .string bd]] w fun e w' => e = .returned (.bool q) ∧ Ex w w' := h ▸ superOk_any dm sm vl tos id ttl si di kind sp dp seq ack fl win bd hb w

theorem ringOk_v {b s h t : Int} {q : Bool} (hq : ringOkB b s h t = q) (w : World) :
    Calls Try.prog 87 #[.agg #[.int .i64 b, .int .i64 s, .int .i64 h, .int .i64 t]] w fun e w' => e = .returned (.bool q) ∧ Ex w w' := hq ▸ ringOk_any b s h t w

set_option maxRecDepth 100000 in
set_option maxHeartbeats 4000000 in
theorem superOkS_any (dm sm vl tos id ttl si di kind sp dp seq ack fl win : Int) (bd : ByteArray) (hb : bd.size ≤ maxLen) (w : World) :
    Calls Try.prog 133 #[.agg #[.int .i64 dm, .int .i64 sm, .int .i64 vl, .int .i64 tos, .int .i64 id, .int .i64 ttl, .int .i64 si, .int .i64 di, .int .i64 kind, .int .i64 sp, .int .i64 dp, .int .i64 seq, .int .i64 ack, .int .i64 fl, .int .i64 win, .string bd]] w fun e w' => e = .returned (.bool (superOkB dm sm vl tos id ttl si di kind sp dp seq ack fl win bd.size)) ∧ Ex w w' := by
  have hb2 := hb
  unfold maxLen at hb2
  cases q1 : inB dm 0 281474976710655
  case false =>
    have H1 := hid q1
    clear q1
    go_enter Try.func133, Try.ntmps133
    go_wp2_with (first
          | (go_at_call 123; (first | (with_reducible refine (l01In_v H1.out _).mono ?_)); rintro e w' ⟨rfl, rfl⟩))
    go_ret
    exact ⟨ret_bool (by simp [superOkB, H1.out]), (by repeat (first | (with_reducible exact Ex.refl _) | (with_reducible apply Ex.plus_add) | (with_reducible apply Ex.plus_drew) | (with_reducible apply Ex.plus) | (with_reducible apply Ex.alloc) | (with_reducible apply Ex.drew)))⟩
  case true =>
  have H1 := hid q1
  obtain ⟨b_dm_0, b_dm_1⟩ := inB_iff.1 q1
  clear q1
  cases q2 : inB sm 0 281474976710655
  case false =>
    have H2 := hid q2
    clear q2
    go_enter Try.func133, Try.ntmps133
    go_wp2_with (first
          | (go_at_call 123; (first | (with_reducible refine (l01In_v H1.out _).mono ?_) | (with_reducible refine (l01In_v H2.out _).mono ?_)); rintro e w' ⟨rfl, rfl⟩))
    go_ret
    exact ⟨ret_bool (by simp [superOkB, H1.out, H2.out]), (by repeat (first | (with_reducible exact Ex.refl _) | (with_reducible apply Ex.plus_add) | (with_reducible apply Ex.plus_drew) | (with_reducible apply Ex.plus) | (with_reducible apply Ex.alloc) | (with_reducible apply Ex.drew)))⟩
  case true =>
  have H2 := hid q2
  obtain ⟨b_sm_0, b_sm_1⟩ := inB_iff.1 q2
  clear q2
  cases q3 : inB vl (-1) 4095
  case false =>
    have H3 := hid q3
    clear q3
    go_enter Try.func133, Try.ntmps133
    go_wp2_with (first
          | (go_at_call 123; (first | (with_reducible refine (l01In_v H1.out _).mono ?_) | (with_reducible refine (l01In_v H2.out _).mono ?_) | (with_reducible refine (l01In_v H3.out _).mono ?_)); rintro e w' ⟨rfl, rfl⟩))
    go_ret
    exact ⟨ret_bool (by simp [superOkB, H1.out, H2.out, H3.out]), (by repeat (first | (with_reducible exact Ex.refl _) | (with_reducible apply Ex.plus_add) | (with_reducible apply Ex.plus_drew) | (with_reducible apply Ex.plus) | (with_reducible apply Ex.alloc) | (with_reducible apply Ex.drew)))⟩
  case true =>
  have H3 := hid q3
  obtain ⟨b_vl_0, b_vl_1⟩ := inB_iff.1 q3
  clear q3
  cases q4 : inB tos 0 255
  case false =>
    have H4 := hid q4
    clear q4
    go_enter Try.func133, Try.ntmps133
    go_wp2_with (first
          | (go_at_call 123; (first | (with_reducible refine (l01In_v H1.out _).mono ?_) | (with_reducible refine (l01In_v H2.out _).mono ?_) | (with_reducible refine (l01In_v H3.out _).mono ?_) | (with_reducible refine (l01In_v H4.out _).mono ?_)); rintro e w' ⟨rfl, rfl⟩))
    go_ret
    exact ⟨ret_bool (by simp [superOkB, H1.out, H2.out, H3.out, H4.out]), (by repeat (first | (with_reducible exact Ex.refl _) | (with_reducible apply Ex.plus_add) | (with_reducible apply Ex.plus_drew) | (with_reducible apply Ex.plus) | (with_reducible apply Ex.alloc) | (with_reducible apply Ex.drew)))⟩
  case true =>
  have H4 := hid q4
  obtain ⟨b_tos_0, b_tos_1⟩ := inB_iff.1 q4
  clear q4
  cases q5 : inB ttl 0 255
  case false =>
    have H5 := hid q5
    clear q5
    go_enter Try.func133, Try.ntmps133
    go_wp2_with (first
          | (go_at_call 123; (first | (with_reducible refine (l01In_v H1.out _).mono ?_) | (with_reducible refine (l01In_v H2.out _).mono ?_) | (with_reducible refine (l01In_v H3.out _).mono ?_) | (with_reducible refine (l01In_v H4.out _).mono ?_) | (with_reducible refine (l01In_v H5.out _).mono ?_)); rintro e w' ⟨rfl, rfl⟩))
    go_ret
    exact ⟨ret_bool (by simp [superOkB, H1.out, H2.out, H3.out, H4.out, H5.out]), (by repeat (first | (with_reducible exact Ex.refl _) | (with_reducible apply Ex.plus_add) | (with_reducible apply Ex.plus_drew) | (with_reducible apply Ex.plus) | (with_reducible apply Ex.alloc) | (with_reducible apply Ex.drew)))⟩
  case true =>
  have H5 := hid q5
  obtain ⟨b_ttl_0, b_ttl_1⟩ := inB_iff.1 q5
  clear q5
  cases q6 : inB id 0 65535
  case false =>
    have H6 := hid q6
    clear q6
    go_enter Try.func133, Try.ntmps133
    go_wp2_with (first
          | (go_at_call 123; (first | (with_reducible refine (l01In_v H1.out _).mono ?_) | (with_reducible refine (l01In_v H2.out _).mono ?_) | (with_reducible refine (l01In_v H3.out _).mono ?_) | (with_reducible refine (l01In_v H4.out _).mono ?_) | (with_reducible refine (l01In_v H5.out _).mono ?_) | (with_reducible refine (l01In_v H6.out _).mono ?_)); rintro e w' ⟨rfl, rfl⟩))
    go_ret
    exact ⟨ret_bool (by simp [superOkB, H1.out, H2.out, H3.out, H4.out, H5.out, H6.out]), (by repeat (first | (with_reducible exact Ex.refl _) | (with_reducible apply Ex.plus_add) | (with_reducible apply Ex.plus_drew) | (with_reducible apply Ex.plus) | (with_reducible apply Ex.alloc) | (with_reducible apply Ex.drew)))⟩
  case true =>
  have H6 := hid q6
  obtain ⟨b_id_0, b_id_1⟩ := inB_iff.1 q6
  clear q6
  cases q7 : inB si 0 4294967295
  case false =>
    have H7 := hid q7
    clear q7
    go_enter Try.func133, Try.ntmps133
    go_wp2_with (first
          | (go_at_call 123; (first | (with_reducible refine (l01In_v H1.out _).mono ?_) | (with_reducible refine (l01In_v H2.out _).mono ?_) | (with_reducible refine (l01In_v H3.out _).mono ?_) | (with_reducible refine (l01In_v H4.out _).mono ?_) | (with_reducible refine (l01In_v H5.out _).mono ?_) | (with_reducible refine (l01In_v H6.out _).mono ?_) | (with_reducible refine (l01In_v H7.out _).mono ?_)); rintro e w' ⟨rfl, rfl⟩))
    go_ret
    exact ⟨ret_bool (by simp [superOkB, H1.out, H2.out, H3.out, H4.out, H5.out, H6.out, H7.out]), (by repeat (first | (with_reducible exact Ex.refl _) | (with_reducible apply Ex.plus_add) | (with_reducible apply Ex.plus_drew) | (with_reducible apply Ex.plus) | (with_reducible apply Ex.alloc) | (with_reducible apply Ex.drew)))⟩
  case true =>
  have H7 := hid q7
  obtain ⟨b_si_0, b_si_1⟩ := inB_iff.1 q7
  clear q7
  cases q8 : inB di 0 4294967295
  case false =>
    have H8 := hid q8
    clear q8
    go_enter Try.func133, Try.ntmps133
    go_wp2_with (first
          | (go_at_call 123; (first | (with_reducible refine (l01In_v H1.out _).mono ?_) | (with_reducible refine (l01In_v H2.out _).mono ?_) | (with_reducible refine (l01In_v H3.out _).mono ?_) | (with_reducible refine (l01In_v H4.out _).mono ?_) | (with_reducible refine (l01In_v H5.out _).mono ?_) | (with_reducible refine (l01In_v H6.out _).mono ?_) | (with_reducible refine (l01In_v H7.out _).mono ?_) | (with_reducible refine (l01In_v H8.out _).mono ?_)); rintro e w' ⟨rfl, rfl⟩))
    go_ret
    exact ⟨ret_bool (by simp [superOkB, H1.out, H2.out, H3.out, H4.out, H5.out, H6.out, H7.out, H8.out]), (by repeat (first | (with_reducible exact Ex.refl _) | (with_reducible apply Ex.plus_add) | (with_reducible apply Ex.plus_drew) | (with_reducible apply Ex.plus) | (with_reducible apply Ex.alloc) | (with_reducible apply Ex.drew)))⟩
  case true =>
  have H8 := hid q8
  obtain ⟨b_di_0, b_di_1⟩ := inB_iff.1 q8
  clear q8
  cases q9 : segOkB kind sp dp seq ack fl win bd.size
  case false =>
    have H9 := hid q9
    clear q9
    go_enter Try.func133, Try.ntmps133
    go_wp2_with (first
          | (go_at_call 123; (first | (with_reducible refine (l01In_v H1.out _).mono ?_) | (with_reducible refine (l01In_v H2.out _).mono ?_) | (with_reducible refine (l01In_v H3.out _).mono ?_) | (with_reducible refine (l01In_v H4.out _).mono ?_) | (with_reducible refine (l01In_v H5.out _).mono ?_) | (with_reducible refine (l01In_v H6.out _).mono ?_) | (with_reducible refine (l01In_v H7.out _).mono ?_) | (with_reducible refine (l01In_v H8.out _).mono ?_)); rintro e w' ⟨rfl, rfl⟩)
          | (go_at_call 155; (first | (with_reducible refine (segOkS_v hb H9.out _).mono ?_)); rintro e w' ⟨rfl, hx⟩; obtain ⟨g, rfl⟩ := hx))
    go_ret
    exact ⟨ret_bool (by simp [superOkB, H1.out, H2.out, H3.out, H4.out, H5.out, H6.out, H7.out, H8.out, H9.out]), (by repeat (first | (with_reducible exact Ex.refl _) | (with_reducible apply Ex.plus_add) | (with_reducible apply Ex.plus_drew) | (with_reducible apply Ex.plus) | (with_reducible apply Ex.alloc) | (with_reducible apply Ex.drew)))⟩
  case true =>
  have H9 := hid q9
  obtain ⟨fl0, fl1⟩ := segOk_fl q9
  clear q9
  cases q10 : decide (128 < bd.size)
  case false =>
    have H10 := hid q10
    have t128 : decide (128 < bd.size) = false := q10
    have u128 : decide ((128 : Int) < bd.size) = false := by simp at q10 ⊢; omega
    have v128 : decide ((bd.size : Int) ≤ 128) = true := by simp at q10 ⊢; omega
    have x128 : decide (bd.size ≤ 128) = true := by simp at q10 ⊢; omega
    clear q10
    cases q11 : (kind == 6)
    case false =>
      have H11 := hid q11
      have n_kind_6 : (kind != 6) = true := by simp at q11 ⊢; exact q11
      go_enter Try.func133, Try.ntmps133
      go_wp2_with (first
            | (go_at_call 123; (first | (with_reducible refine (l01In_v H1.out _).mono ?_) | (with_reducible refine (l01In_v H2.out _).mono ?_) | (with_reducible refine (l01In_v H3.out _).mono ?_) | (with_reducible refine (l01In_v H4.out _).mono ?_) | (with_reducible refine (l01In_v H5.out _).mono ?_) | (with_reducible refine (l01In_v H6.out _).mono ?_) | (with_reducible refine (l01In_v H7.out _).mono ?_) | (with_reducible refine (l01In_v H8.out _).mono ?_)); rintro e w' ⟨rfl, rfl⟩)
            | (go_at_call 155; (first | (with_reducible refine (segOkS_v hb H9.out _).mono ?_)); rintro e w' ⟨rfl, hx⟩; obtain ⟨g, rfl⟩ := hx))
      go_ret
      exact ⟨ret_bool (by simp [superOkB, H1.out, H2.out, H3.out, H4.out, H5.out, H6.out, H7.out, H8.out, H9.out, H10.out, H11.out]), (by repeat (first | (with_reducible exact Ex.refl _) | (with_reducible apply Ex.plus_add) | (with_reducible apply Ex.plus_drew) | (with_reducible apply Ex.plus) | (with_reducible apply Ex.alloc) | (with_reducible apply Ex.drew)))⟩
    case true =>
    have H11 := hid q11
    have n_kind_6 : (kind != 6) = false := by simp at q11 ⊢; exact q11
    cases q12 : streamB fl
    case false =>
      have H12 := hid q12
      have fb := andnot9 fl0 fl1 q12
      clear q12
      go_enter Try.func133, Try.ntmps133
      go_wp2_with (first
            | (go_at_call 123; (first | (with_reducible refine (l01In_v H1.out _).mono ?_) | (with_reducible refine (l01In_v H2.out _).mono ?_) | (with_reducible refine (l01In_v H3.out _).mono ?_) | (with_reducible refine (l01In_v H4.out _).mono ?_) | (with_reducible refine (l01In_v H5.out _).mono ?_) | (with_reducible refine (l01In_v H6.out _).mono ?_) | (with_reducible refine (l01In_v H7.out _).mono ?_) | (with_reducible refine (l01In_v H8.out _).mono ?_)); rintro e w' ⟨rfl, rfl⟩)
            | (go_at_call 155; (first | (with_reducible refine (segOkS_v hb H9.out _).mono ?_)); rintro e w' ⟨rfl, hx⟩; obtain ⟨g, rfl⟩ := hx))
      go_ret
      exact ⟨ret_bool (by simp [superOkB, H1.out, H2.out, H3.out, H4.out, H5.out, H6.out, H7.out, H8.out, H9.out, H10.out, H11.out, H12.out]), (by repeat (first | (with_reducible exact Ex.refl _) | (with_reducible apply Ex.plus_add) | (with_reducible apply Ex.plus_drew) | (with_reducible apply Ex.plus) | (with_reducible apply Ex.alloc) | (with_reducible apply Ex.drew)))⟩
    case true =>
    have H12 := hid q12
    have fb := andnot9 fl0 fl1 q12
    clear q12
    go_enter Try.func133, Try.ntmps133
    go_wp2_with (first
          | (go_at_call 123; (first | (with_reducible refine (l01In_v H1.out _).mono ?_) | (with_reducible refine (l01In_v H2.out _).mono ?_) | (with_reducible refine (l01In_v H3.out _).mono ?_) | (with_reducible refine (l01In_v H4.out _).mono ?_) | (with_reducible refine (l01In_v H5.out _).mono ?_) | (with_reducible refine (l01In_v H6.out _).mono ?_) | (with_reducible refine (l01In_v H7.out _).mono ?_) | (with_reducible refine (l01In_v H8.out _).mono ?_)); rintro e w' ⟨rfl, rfl⟩)
          | (go_at_call 155; (first | (with_reducible refine (segOkS_v hb H9.out _).mono ?_)); rintro e w' ⟨rfl, hx⟩; obtain ⟨g, rfl⟩ := hx))
    go_ret
    exact ⟨ret_bool (by simp [superOkB, H1.out, H2.out, H3.out, H4.out, H5.out, H6.out, H7.out, H8.out, H9.out, H10.out, H11.out, H12.out]), (by repeat (first | (with_reducible exact Ex.refl _) | (with_reducible apply Ex.plus_add) | (with_reducible apply Ex.plus_drew) | (with_reducible apply Ex.plus) | (with_reducible apply Ex.alloc) | (with_reducible apply Ex.drew)))⟩
  case true =>
  have H10 := hid q10
  have t128 : decide (128 < bd.size) = true := q10
  have u128 : decide ((128 : Int) < bd.size) = true := by simp at q10 ⊢; omega
  have v128 : decide ((bd.size : Int) ≤ 128) = false := by simp at q10 ⊢; omega
  have x128 : decide (bd.size ≤ 128) = false := by simp at q10 ⊢; omega
  clear q10
  cases q11 : (kind == 6)
  case false =>
    have H11 := hid q11
    have n_kind_6 : (kind != 6) = true := by simp at q11 ⊢; exact q11
    go_enter Try.func133, Try.ntmps133
    go_wp2_with (first
          | (go_at_call 123; (first | (with_reducible refine (l01In_v H1.out _).mono ?_) | (with_reducible refine (l01In_v H2.out _).mono ?_) | (with_reducible refine (l01In_v H3.out _).mono ?_) | (with_reducible refine (l01In_v H4.out _).mono ?_) | (with_reducible refine (l01In_v H5.out _).mono ?_) | (with_reducible refine (l01In_v H6.out _).mono ?_) | (with_reducible refine (l01In_v H7.out _).mono ?_) | (with_reducible refine (l01In_v H8.out _).mono ?_)); rintro e w' ⟨rfl, rfl⟩)
          | (go_at_call 155; (first | (with_reducible refine (segOkS_v hb H9.out _).mono ?_)); rintro e w' ⟨rfl, hx⟩; obtain ⟨g, rfl⟩ := hx))
    go_ret
    exact ⟨ret_bool (by simp [superOkB, H1.out, H2.out, H3.out, H4.out, H5.out, H6.out, H7.out, H8.out, H9.out, H10.out, H11.out]), (by repeat (first | (with_reducible exact Ex.refl _) | (with_reducible apply Ex.plus_add) | (with_reducible apply Ex.plus_drew) | (with_reducible apply Ex.plus) | (with_reducible apply Ex.alloc) | (with_reducible apply Ex.drew)))⟩
  case true =>
  have H11 := hid q11
  have n_kind_6 : (kind != 6) = false := by simp at q11 ⊢; exact q11
  cases q12 : streamB fl
  case false =>
    have H12 := hid q12
    have fb := andnot9 fl0 fl1 q12
    clear q12
    go_enter Try.func133, Try.ntmps133
    go_wp2_with (first
          | (go_at_call 123; (first | (with_reducible refine (l01In_v H1.out _).mono ?_) | (with_reducible refine (l01In_v H2.out _).mono ?_) | (with_reducible refine (l01In_v H3.out _).mono ?_) | (with_reducible refine (l01In_v H4.out _).mono ?_) | (with_reducible refine (l01In_v H5.out _).mono ?_) | (with_reducible refine (l01In_v H6.out _).mono ?_) | (with_reducible refine (l01In_v H7.out _).mono ?_) | (with_reducible refine (l01In_v H8.out _).mono ?_)); rintro e w' ⟨rfl, rfl⟩)
          | (go_at_call 155; (first | (with_reducible refine (segOkS_v hb H9.out _).mono ?_)); rintro e w' ⟨rfl, hx⟩; obtain ⟨g, rfl⟩ := hx))
    go_ret
    exact ⟨ret_bool (by simp [superOkB, H1.out, H2.out, H3.out, H4.out, H5.out, H6.out, H7.out, H8.out, H9.out, H10.out, H11.out, H12.out]), (by repeat (first | (with_reducible exact Ex.refl _) | (with_reducible apply Ex.plus_add) | (with_reducible apply Ex.plus_drew) | (with_reducible apply Ex.plus) | (with_reducible apply Ex.alloc) | (with_reducible apply Ex.drew)))⟩
  case true =>
  have H12 := hid q12
  have fb := andnot9 fl0 fl1 q12
  clear q12
  go_enter Try.func133, Try.ntmps133
  go_wp2_with (first
        | (go_at_call 123; (first | (with_reducible refine (l01In_v H1.out _).mono ?_) | (with_reducible refine (l01In_v H2.out _).mono ?_) | (with_reducible refine (l01In_v H3.out _).mono ?_) | (with_reducible refine (l01In_v H4.out _).mono ?_) | (with_reducible refine (l01In_v H5.out _).mono ?_) | (with_reducible refine (l01In_v H6.out _).mono ?_) | (with_reducible refine (l01In_v H7.out _).mono ?_) | (with_reducible refine (l01In_v H8.out _).mono ?_)); rintro e w' ⟨rfl, rfl⟩)
        | (go_at_call 155; (first | (with_reducible refine (segOkS_v hb H9.out _).mono ?_)); rintro e w' ⟨rfl, hx⟩; obtain ⟨g, rfl⟩ := hx))
  go_ret
  exact ⟨ret_bool (by simp [superOkB, H1.out, H2.out, H3.out, H4.out, H5.out, H6.out, H7.out, H8.out, H9.out, H10.out, H11.out, H12.out]), (by repeat (first | (with_reducible exact Ex.refl _) | (with_reducible apply Ex.plus_add) | (with_reducible apply Ex.plus_drew) | (with_reducible apply Ex.plus) | (with_reducible apply Ex.alloc) | (with_reducible apply Ex.drew)))⟩

theorem superOkS_v {dm sm vl tos id ttl si di kind sp dp seq ack fl win : Int} {bd : ByteArray} (hb : bd.size ≤ maxLen) {q : Bool} (h : superOkB dm sm vl tos id ttl si di kind sp dp seq ack fl win bd.size = q) (w : World) :
    Calls Try.prog 133 #[.agg #[.int .i64 dm, .int .i64 sm, .int .i64 vl, .int .i64 tos, .int .i64 id, .int .i64 ttl, .int .i64 si, .int .i64 di, .int .i64 kind, .int .i64 sp, .int .i64 dp, .int .i64 seq, .int .i64 ack, .int .i64 fl, .int .i64 win, .string bd]] w fun e w' => e = .returned (.bool q) ∧ Ex w w' := h ▸ superOkS_any dm sm vl tos id ttl si di kind sp dp seq ack fl win bd hb w

theorem ringOkS_v {b s h t : Int} {q : Bool} (hq : ringOkB b s h t = q) (w : World) :
    Calls Try.prog 83 #[.agg #[.int .i64 b, .int .i64 s, .int .i64 h, .int .i64 t]] w fun e w' => e = .returned (.bool q) ∧ Ex w w' := hq ▸ ringOkS_any b s h t w

end Go.Proofs.Ytelkplponnfkpaa
