/- Contracts of RingOk, SegmentOk, SuperOk of both. -/
import Derived.Test.YtelkplponnfkpaaRows
import Derived.Test.YtelkplponnfkpaaScal
import Derived.Test.YtelkplponnfkpaaMask
namespace Go.Proofs.Ytelkplponnfkpaa
open Go.RowKit
set_option linter.unusedVariables false

def ringOkB (b s h t : Int) : Bool := inB b 0 130944 && sizeB s && inB h 0 (2 * s - 1) && inB t 0 (2 * s - 1) && decide ((t - h) % (2 * s) ≤ s)
def segOkB (kind sp dp seq ack fl win : Int) (n : Nat) : Bool := inB sp 0 65535 && inB dp 0 65535 && !decide (320 < n) &&
  ((kind == 6 && (inB seq 0 4294967295 && (inB ack 0 4294967295 && (inB fl 0 31 && inB win 0 65535)))) || (!(kind == 6) && (kind == 17 && (seq == 0 && (ack == 0 && (fl == 0 && win == 0))))))
def streamB (fl : Int) : Bool := fl == 16 || fl == 17 || fl == 24 || fl == 25
def superOkB (dm sm vl tos id ttl si di kind sp dp seq ack fl win : Int) (n : Nat) : Bool := inB dm 0 281474976710655 && (inB sm 0 281474976710655 && (inB vl (-1) 4095 && (inB tos 0 255 && (inB ttl 0 255 && (inB id 0 65535 && (inB si 0 4294967295 && (inB di 0 4294967295 && (segOkB kind sp dp seq ack fl win n &&
  (!decide (128 < n) || (kind == 6 && streamB fl))))))))))
theorem flag_facts : ∀ n : Fin 32, bits .and .i64 (n.val : Int) 16 = (if 16 ≤ n.val then 16 else 0) ∧ (bits .andNot .i64 (n.val : Int) 25 == 0) = decide (n.val = 0 ∨ n.val = 1 ∨ n.val = 8 ∨ n.val = 9 ∨ n.val = 16 ∨ n.val = 17 ∨ n.val = 24 ∨ n.val = 25) ∧ (bits .andNot .i64 (n.val : Int) 9 == 16) = decide (n.val = 16 ∨ n.val = 17 ∨ n.val = 24 ∨ n.val = 25) := by decide +kernel
theorem sizeB_cases {s : Int} (h : sizeB s = true) : s = 2 ∨ s = 4 ∨ s = 8 ∨ s = 16 := by simpa [sizeB, or_assoc] using h
theorem segOk_fl {kind sp dp seq ack fl win : Int} {n : Nat} (h : segOkB kind sp dp seq ack fl win n = true) : 0 ≤ fl ∧ fl ≤ 31 := by
  simp only [segOkB, Bool.and_eq_true, Bool.or_eq_true, inB_iff, beq_iff_eq] at h
  omega
theorem ringSize_v {n : Int} {q : Bool} (h : sizeB n = q) (w : World) : Calls Try.prog 63 #[.int .i64 n] w fun e w' => e = .returned (.bool q) ∧ w = w' := h ▸ ringSize_any n w
theorem l20Size_v {n : Int} {q : Bool} (h : sizeB n = q) (w : World) : Calls Try.prog 124 #[.int .i64 n] w fun e w' => e = .returned (.bool q) ∧ w = w' := h ▸ l20Size_any n w

set_option maxRecDepth 100000 in
set_option maxHeartbeats 2000000 in
theorem segOk_any (kind sp dp seq ack fl win : Int) (bd : ByteArray) (hb : bd.size ≤ maxLen) (w : World) :
    Calls Try.prog 157 #[.agg #[.int .i64 kind, .int .i64 sp, .int .i64 dp, .int .i64 seq, .int .i64 ack, .int .i64 fl, .int .i64 win, .string bd]] w fun e w' => e = .returned (.bool (segOkB kind sp dp seq ack fl win bd.size)) ∧ Ex w w' := by
  unfold maxLen at hb
  cases q1 : inB sp 0 65535
  case false =>
    have H1 := hid q1
    clear q1
    go_enter Try.func157, Try.ntmps157
    go_wp2_with (first
          | (go_at_call 62; (first | (with_reducible refine (between_v H1.out _).mono ?_)); rintro e w' ⟨rfl, rfl⟩))
    go_ret
    exact ⟨ret_bool (by simp [segOkB, H1.out]), (by repeat (first | (with_reducible exact Ex.refl _) | (with_reducible apply Ex.plus_add) | (with_reducible apply Ex.plus_drew) | (with_reducible apply Ex.plus) | (with_reducible apply Ex.alloc) | (with_reducible apply Ex.drew)))⟩
  case true =>
  have H1 := hid q1
  obtain ⟨b_sp_0, b_sp_1⟩ := inB_iff.1 q1
  clear q1
  cases q2 : inB dp 0 65535
  case false =>
    have H2 := hid q2
    clear q2
    go_enter Try.func157, Try.ntmps157
    go_wp2_with (first
          | (go_at_call 62; (first | (with_reducible refine (between_v H1.out _).mono ?_) | (with_reducible refine (between_v H2.out _).mono ?_)); rintro e w' ⟨rfl, rfl⟩))
    go_ret
    exact ⟨ret_bool (by simp [segOkB, H1.out, H2.out]), (by repeat (first | (with_reducible exact Ex.refl _) | (with_reducible apply Ex.plus_add) | (with_reducible apply Ex.plus_drew) | (with_reducible apply Ex.plus) | (with_reducible apply Ex.alloc) | (with_reducible apply Ex.drew)))⟩
  case true =>
  have H2 := hid q2
  obtain ⟨b_dp_0, b_dp_1⟩ := inB_iff.1 q2
  clear q2
  cases q3 : decide (320 < bd.size)
  case false =>
    have H3 := hid q3
    have t320 : decide (320 < bd.size) = false := q3
    have u320 : decide ((320 : Int) < bd.size) = false := by simp at q3 ⊢; omega
    clear q3
    cases q4 : (kind == 6)
    case false =>
      have H4 := hid q4
      have n_kind_6 : (kind != 6) = true := by simp at q4 ⊢; exact q4
      cases q5 : (kind == 17)
      case false =>
        have H5 := hid q5
        have n_kind_17 : (kind != 17) = true := by simp at q5 ⊢; exact q5
        go_enter Try.func157, Try.ntmps157
        go_wp2_with (first
              | (go_at_call 62; (first | (with_reducible refine (between_v H1.out _).mono ?_) | (with_reducible refine (between_v H2.out _).mono ?_)); rintro e w' ⟨rfl, rfl⟩))
        go_ret
        exact ⟨ret_bool (by simp [segOkB, H1.out, H2.out, H3.out, H4.out, H5.out]), (by repeat (first | (with_reducible exact Ex.refl _) | (with_reducible apply Ex.plus_add) | (with_reducible apply Ex.plus_drew) | (with_reducible apply Ex.plus) | (with_reducible apply Ex.alloc) | (with_reducible apply Ex.drew)))⟩
      case true =>
      have H5 := hid q5
      have n_kind_17 : (kind != 17) = false := by simp at q5 ⊢; exact q5
      cases q6 : (seq == 0)
      case false =>
        have H6 := hid q6
        have n_seq_0 : (seq != 0) = true := by simp at q6 ⊢; exact q6
        go_enter Try.func157, Try.ntmps157
        go_wp2_with (first
              | (go_at_call 62; (first | (with_reducible refine (between_v H1.out _).mono ?_) | (with_reducible refine (between_v H2.out _).mono ?_)); rintro e w' ⟨rfl, rfl⟩))
        go_ret
        exact ⟨ret_bool (by simp [segOkB, H1.out, H2.out, H3.out, H4.out, H5.out, H6.out]), (by repeat (first | (with_reducible exact Ex.refl _) | (with_reducible apply Ex.plus_add) | (with_reducible apply Ex.plus_drew) | (with_reducible apply Ex.plus) | (with_reducible apply Ex.alloc) | (with_reducible apply Ex.drew)))⟩
      case true =>
      have H6 := hid q6
      have n_seq_0 : (seq != 0) = false := by simp at q6 ⊢; exact q6
      cases q7 : (ack == 0)
      case false =>
        have H7 := hid q7
        have n_ack_0 : (ack != 0) = true := by simp at q7 ⊢; exact q7
        go_enter Try.func157, Try.ntmps157
        go_wp2_with (first
              | (go_at_call 62; (first | (with_reducible refine (between_v H1.out _).mono ?_) | (with_reducible refine (between_v H2.out _).mono ?_)); rintro e w' ⟨rfl, rfl⟩))
        go_ret
        exact ⟨ret_bool (by simp [segOkB, H1.out, H2.out, H3.out, H4.out, H5.out, H6.out, H7.out]), (by repeat (first | (with_reducible exact Ex.refl _) | (with_reducible apply Ex.plus_add) | (with_reducible apply Ex.plus_drew) | (with_reducible apply Ex.plus) | (with_reducible apply Ex.alloc) | (with_reducible apply Ex.drew)))⟩
      case true =>
      have H7 := hid q7
      have n_ack_0 : (ack != 0) = false := by simp at q7 ⊢; exact q7
      cases q8 : (fl == 0)
      case false =>
        have H8 := hid q8
        have n_fl_0 : (fl != 0) = true := by simp at q8 ⊢; exact q8
        go_enter Try.func157, Try.ntmps157
        go_wp2_with (first
              | (go_at_call 62; (first | (with_reducible refine (between_v H1.out _).mono ?_) | (with_reducible refine (between_v H2.out _).mono ?_)); rintro e w' ⟨rfl, rfl⟩))
        go_ret
        exact ⟨ret_bool (by simp [segOkB, H1.out, H2.out, H3.out, H4.out, H5.out, H6.out, H7.out, H8.out]), (by repeat (first | (with_reducible exact Ex.refl _) | (with_reducible apply Ex.plus_add) | (with_reducible apply Ex.plus_drew) | (with_reducible apply Ex.plus) | (with_reducible apply Ex.alloc) | (with_reducible apply Ex.drew)))⟩
      case true =>
      have H8 := hid q8
      have n_fl_0 : (fl != 0) = false := by simp at q8 ⊢; exact q8
      cases q9 : (win == 0)
      case false =>
        have H9 := hid q9
        have n_win_0 : (win != 0) = true := by simp at q9 ⊢; exact q9
        go_enter Try.func157, Try.ntmps157
        go_wp2_with (first
              | (go_at_call 62; (first | (with_reducible refine (between_v H1.out _).mono ?_) | (with_reducible refine (between_v H2.out _).mono ?_)); rintro e w' ⟨rfl, rfl⟩))
        go_ret
        exact ⟨ret_bool (by simp [segOkB, H1.out, H2.out, H3.out, H4.out, H5.out, H6.out, H7.out, H8.out, H9.out]), (by repeat (first | (with_reducible exact Ex.refl _) | (with_reducible apply Ex.plus_add) | (with_reducible apply Ex.plus_drew) | (with_reducible apply Ex.plus) | (with_reducible apply Ex.alloc) | (with_reducible apply Ex.drew)))⟩
      case true =>
      have H9 := hid q9
      have n_win_0 : (win != 0) = false := by simp at q9 ⊢; exact q9
      go_enter Try.func157, Try.ntmps157
      go_wp2_with (first
            | (go_at_call 62; (first | (with_reducible refine (between_v H1.out _).mono ?_) | (with_reducible refine (between_v H2.out _).mono ?_)); rintro e w' ⟨rfl, rfl⟩))
      go_ret
      exact ⟨ret_bool (by simp [segOkB, H1.out, H2.out, H3.out, H4.out, H5.out, H6.out, H7.out, H8.out, H9.out]), (by repeat (first | (with_reducible exact Ex.refl _) | (with_reducible apply Ex.plus_add) | (with_reducible apply Ex.plus_drew) | (with_reducible apply Ex.plus) | (with_reducible apply Ex.alloc) | (with_reducible apply Ex.drew)))⟩
    case true =>
    have H4 := hid q4
    have n_kind_6 : (kind != 6) = false := by simp at q4 ⊢; exact q4
    cases q5 : inB seq 0 4294967295
    case false =>
      have H5 := hid q5
      clear q5
      go_enter Try.func157, Try.ntmps157
      go_wp2_with (first
            | (go_at_call 62; (first | (with_reducible refine (between_v H1.out _).mono ?_) | (with_reducible refine (between_v H2.out _).mono ?_) | (with_reducible refine (between_v H5.out _).mono ?_)); rintro e w' ⟨rfl, rfl⟩))
      go_ret
      exact ⟨ret_bool (by simp [segOkB, H1.out, H2.out, H3.out, H4.out, H5.out]), (by repeat (first | (with_reducible exact Ex.refl _) | (with_reducible apply Ex.plus_add) | (with_reducible apply Ex.plus_drew) | (with_reducible apply Ex.plus) | (with_reducible apply Ex.alloc) | (with_reducible apply Ex.drew)))⟩
    case true =>
    have H5 := hid q5
    obtain ⟨b_seq_0, b_seq_1⟩ := inB_iff.1 q5
    clear q5
    cases q6 : inB ack 0 4294967295
    case false =>
      have H6 := hid q6
      clear q6
      go_enter Try.func157, Try.ntmps157
      go_wp2_with (first
            | (go_at_call 62; (first | (with_reducible refine (between_v H1.out _).mono ?_) | (with_reducible refine (between_v H2.out _).mono ?_) | (with_reducible refine (between_v H5.out _).mono ?_) | (with_reducible refine (between_v H6.out _).mono ?_)); rintro e w' ⟨rfl, rfl⟩))
      go_ret
      exact ⟨ret_bool (by simp [segOkB, H1.out, H2.out, H3.out, H4.out, H5.out, H6.out]), (by repeat (first | (with_reducible exact Ex.refl _) | (with_reducible apply Ex.plus_add) | (with_reducible apply Ex.plus_drew) | (with_reducible apply Ex.plus) | (with_reducible apply Ex.alloc) | (with_reducible apply Ex.drew)))⟩
    case true =>
    have H6 := hid q6
    obtain ⟨b_ack_0, b_ack_1⟩ := inB_iff.1 q6
    clear q6
    cases q7 : inB fl 0 31
    case false =>
      have H7 := hid q7
      clear q7
      go_enter Try.func157, Try.ntmps157
      go_wp2_with (first
            | (go_at_call 62; (first | (with_reducible refine (between_v H1.out _).mono ?_) | (with_reducible refine (between_v H2.out _).mono ?_) | (with_reducible refine (between_v H5.out _).mono ?_) | (with_reducible refine (between_v H6.out _).mono ?_) | (with_reducible refine (between_v H7.out _).mono ?_)); rintro e w' ⟨rfl, rfl⟩))
      go_ret
      exact ⟨ret_bool (by simp [segOkB, H1.out, H2.out, H3.out, H4.out, H5.out, H6.out, H7.out]), (by repeat (first | (with_reducible exact Ex.refl _) | (with_reducible apply Ex.plus_add) | (with_reducible apply Ex.plus_drew) | (with_reducible apply Ex.plus) | (with_reducible apply Ex.alloc) | (with_reducible apply Ex.drew)))⟩
    case true =>
    have H7 := hid q7
    obtain ⟨b_fl_0, b_fl_1⟩ := inB_iff.1 q7
    clear q7
    cases q8 : inB win 0 65535
    case false =>
      have H8 := hid q8
      clear q8
      go_enter Try.func157, Try.ntmps157
      go_wp2_with (first
            | (go_at_call 62; (first | (with_reducible refine (between_v H1.out _).mono ?_) | (with_reducible refine (between_v H2.out _).mono ?_) | (with_reducible refine (between_v H5.out _).mono ?_) | (with_reducible refine (between_v H6.out _).mono ?_) | (with_reducible refine (between_v H7.out _).mono ?_) | (with_reducible refine (between_v H8.out _).mono ?_)); rintro e w' ⟨rfl, rfl⟩))
      go_ret
      exact ⟨ret_bool (by simp [segOkB, H1.out, H2.out, H3.out, H4.out, H5.out, H6.out, H7.out, H8.out]), (by repeat (first | (with_reducible exact Ex.refl _) | (with_reducible apply Ex.plus_add) | (with_reducible apply Ex.plus_drew) | (with_reducible apply Ex.plus) | (with_reducible apply Ex.alloc) | (with_reducible apply Ex.drew)))⟩
    case true =>
    have H8 := hid q8
    obtain ⟨b_win_0, b_win_1⟩ := inB_iff.1 q8
    clear q8
    go_enter Try.func157, Try.ntmps157
    go_wp2_with (first
          | (go_at_call 62; (first | (with_reducible refine (between_v H1.out _).mono ?_) | (with_reducible refine (between_v H2.out _).mono ?_) | (with_reducible refine (between_v H5.out _).mono ?_) | (with_reducible refine (between_v H6.out _).mono ?_) | (with_reducible refine (between_v H7.out _).mono ?_) | (with_reducible refine (between_v H8.out _).mono ?_)); rintro e w' ⟨rfl, rfl⟩))
    go_ret
    exact ⟨ret_bool (by simp [segOkB, H1.out, H2.out, H3.out, H4.out, H5.out, H6.out, H7.out, H8.out]), (by repeat (first | (with_reducible exact Ex.refl _) | (with_reducible apply Ex.plus_add) | (with_reducible apply Ex.plus_drew) | (with_reducible apply Ex.plus) | (with_reducible apply Ex.alloc) | (with_reducible apply Ex.drew)))⟩
  case true =>
  have H3 := hid q3
  have t320 : decide (320 < bd.size) = true := q3
  have u320 : decide ((320 : Int) < bd.size) = true := by simp at q3 ⊢; omega
  clear q3
  go_enter Try.func157, Try.ntmps157
  go_wp2_with (first
        | (go_at_call 62; (first | (with_reducible refine (between_v H1.out _).mono ?_) | (with_reducible refine (between_v H2.out _).mono ?_)); rintro e w' ⟨rfl, rfl⟩))
  go_ret
  exact ⟨ret_bool (by simp [segOkB, H1.out, H2.out, H3.out]), (by repeat (first | (with_reducible exact Ex.refl _) | (with_reducible apply Ex.plus_add) | (with_reducible apply Ex.plus_drew) | (with_reducible apply Ex.plus) | (with_reducible apply Ex.alloc) | (with_reducible apply Ex.drew)))⟩

theorem segOk_v {kind sp dp seq ack fl win : Int} {bd : ByteArray} (hb : bd.size ≤ maxLen) {q : Bool} (h : segOkB kind sp dp seq ack fl win bd.size = q) (w : World) :
    Calls Try.prog 157 #[.agg #[.int .i64 kind, .int .i64 sp, .int .i64 dp, .int .i64 seq, .int .i64 ack, .int .i64 fl, .int .i64 win, .string bd]] w fun e w' => e = .returned (.bool q) ∧ Ex w w' := h ▸ segOk_any kind sp dp seq ack fl win bd hb w

set_option maxRecDepth 100000 in
set_option maxHeartbeats 2000000 in
theorem segOkS_any (kind sp dp seq ack fl win : Int) (bd : ByteArray) (hb : bd.size ≤ maxLen) (w : World) :
    Calls Try.prog 155 #[.agg #[.int .i64 kind, .int .i64 sp, .int .i64 dp, .int .i64 seq, .int .i64 ack, .int .i64 fl, .int .i64 win, .string bd]] w fun e w' => e = .returned (.bool (segOkB kind sp dp seq ack fl win bd.size)) ∧ Ex w w' := by
  unfold maxLen at hb
  cases q1 : inB sp 0 65535
  case false =>
    have H1 := hid q1
    clear q1
    go_enter Try.func155, Try.ntmps155
    go_wp2_with (first
          | (go_at_call 123; (first | (with_reducible refine (l01In_v H1.out _).mono ?_)); rintro e w' ⟨rfl, rfl⟩))
    go_ret
    exact ⟨ret_bool (by simp [segOkB, H1.out]), (by repeat (first | (with_reducible exact Ex.refl _) | (with_reducible apply Ex.plus_add) | (with_reducible apply Ex.plus_drew) | (with_reducible apply Ex.plus) | (with_reducible apply Ex.alloc) | (with_reducible apply Ex.drew)))⟩
  case true =>
  have H1 := hid q1
  obtain ⟨b_sp_0, b_sp_1⟩ := inB_iff.1 q1
  clear q1
  cases q2 : inB dp 0 65535
  case false =>
    have H2 := hid q2
    clear q2
    go_enter Try.func155, Try.ntmps155
    go_wp2_with (first
          | (go_at_call 123; (first | (with_reducible refine (l01In_v H1.out _).mono ?_) | (with_reducible refine (l01In_v H2.out _).mono ?_)); rintro e w' ⟨rfl, rfl⟩))
    go_ret
    exact ⟨ret_bool (by simp [segOkB, H1.out, H2.out]), (by repeat (first | (with_reducible exact Ex.refl _) | (with_reducible apply Ex.plus_add) | (with_reducible apply Ex.plus_drew) | (with_reducible apply Ex.plus) | (with_reducible apply Ex.alloc) | (with_reducible apply Ex.drew)))⟩
  case true =>
  have H2 := hid q2
  obtain ⟨b_dp_0, b_dp_1⟩ := inB_iff.1 q2
  clear q2
  cases q3 : decide (320 < bd.size)
  case false =>
    have H3 := hid q3
    have t320 : decide (320 < bd.size) = false := q3
    have u320 : decide ((320 : Int) < bd.size) = false := by simp at q3 ⊢; omega
    clear q3
    cases q4 : (kind == 6)
    case false =>
      have H4 := hid q4
      have n_kind_6 : (kind != 6) = true := by simp at q4 ⊢; exact q4
      cases q5 : (kind == 17)
      case false =>
        have H5 := hid q5
        have n_kind_17 : (kind != 17) = true := by simp at q5 ⊢; exact q5
        go_enter Try.func155, Try.ntmps155
        go_wp2_with (first
              | (go_at_call 123; (first | (with_reducible refine (l01In_v H1.out _).mono ?_) | (with_reducible refine (l01In_v H2.out _).mono ?_)); rintro e w' ⟨rfl, rfl⟩))
        go_ret
        exact ⟨ret_bool (by simp [segOkB, H1.out, H2.out, H3.out, H4.out, H5.out]), (by repeat (first | (with_reducible exact Ex.refl _) | (with_reducible apply Ex.plus_add) | (with_reducible apply Ex.plus_drew) | (with_reducible apply Ex.plus) | (with_reducible apply Ex.alloc) | (with_reducible apply Ex.drew)))⟩
      case true =>
      have H5 := hid q5
      have n_kind_17 : (kind != 17) = false := by simp at q5 ⊢; exact q5
      cases q6 : (seq == 0)
      case false =>
        have H6 := hid q6
        have n_seq_0 : (seq != 0) = true := by simp at q6 ⊢; exact q6
        go_enter Try.func155, Try.ntmps155
        go_wp2_with (first
              | (go_at_call 123; (first | (with_reducible refine (l01In_v H1.out _).mono ?_) | (with_reducible refine (l01In_v H2.out _).mono ?_)); rintro e w' ⟨rfl, rfl⟩))
        go_ret
        exact ⟨ret_bool (by simp [segOkB, H1.out, H2.out, H3.out, H4.out, H5.out, H6.out]), (by repeat (first | (with_reducible exact Ex.refl _) | (with_reducible apply Ex.plus_add) | (with_reducible apply Ex.plus_drew) | (with_reducible apply Ex.plus) | (with_reducible apply Ex.alloc) | (with_reducible apply Ex.drew)))⟩
      case true =>
      have H6 := hid q6
      have n_seq_0 : (seq != 0) = false := by simp at q6 ⊢; exact q6
      cases q7 : (ack == 0)
      case false =>
        have H7 := hid q7
        have n_ack_0 : (ack != 0) = true := by simp at q7 ⊢; exact q7
        go_enter Try.func155, Try.ntmps155
        go_wp2_with (first
              | (go_at_call 123; (first | (with_reducible refine (l01In_v H1.out _).mono ?_) | (with_reducible refine (l01In_v H2.out _).mono ?_)); rintro e w' ⟨rfl, rfl⟩))
        go_ret
        exact ⟨ret_bool (by simp [segOkB, H1.out, H2.out, H3.out, H4.out, H5.out, H6.out, H7.out]), (by repeat (first | (with_reducible exact Ex.refl _) | (with_reducible apply Ex.plus_add) | (with_reducible apply Ex.plus_drew) | (with_reducible apply Ex.plus) | (with_reducible apply Ex.alloc) | (with_reducible apply Ex.drew)))⟩
      case true =>
      have H7 := hid q7
      have n_ack_0 : (ack != 0) = false := by simp at q7 ⊢; exact q7
      cases q8 : (fl == 0)
      case false =>
        have H8 := hid q8
        have n_fl_0 : (fl != 0) = true := by simp at q8 ⊢; exact q8
        go_enter Try.func155, Try.ntmps155
        go_wp2_with (first
              | (go_at_call 123; (first | (with_reducible refine (l01In_v H1.out _).mono ?_) | (with_reducible refine (l01In_v H2.out _).mono ?_)); rintro e w' ⟨rfl, rfl⟩))
        go_ret
        exact ⟨ret_bool (by simp [segOkB, H1.out, H2.out, H3.out, H4.out, H5.out, H6.out, H7.out, H8.out]), (by repeat (first | (with_reducible exact Ex.refl _) | (with_reducible apply Ex.plus_add) | (with_reducible apply Ex.plus_drew) | (with_reducible apply Ex.plus) | (with_reducible apply Ex.alloc) | (with_reducible apply Ex.drew)))⟩
      case true =>
      have H8 := hid q8
      have n_fl_0 : (fl != 0) = false := by simp at q8 ⊢; exact q8
      cases q9 : (win == 0)
      case false =>
        have H9 := hid q9
        have n_win_0 : (win != 0) = true := by simp at q9 ⊢; exact q9
        go_enter Try.func155, Try.ntmps155
        go_wp2_with (first
              | (go_at_call 123; (first | (with_reducible refine (l01In_v H1.out _).mono ?_) | (with_reducible refine (l01In_v H2.out _).mono ?_)); rintro e w' ⟨rfl, rfl⟩))
        go_ret
        exact ⟨ret_bool (by simp [segOkB, H1.out, H2.out, H3.out, H4.out, H5.out, H6.out, H7.out, H8.out, H9.out]), (by repeat (first | (with_reducible exact Ex.refl _) | (with_reducible apply Ex.plus_add) | (with_reducible apply Ex.plus_drew) | (with_reducible apply Ex.plus) | (with_reducible apply Ex.alloc) | (with_reducible apply Ex.drew)))⟩
      case true =>
      have H9 := hid q9
      have n_win_0 : (win != 0) = false := by simp at q9 ⊢; exact q9
      go_enter Try.func155, Try.ntmps155
      go_wp2_with (first
            | (go_at_call 123; (first | (with_reducible refine (l01In_v H1.out _).mono ?_) | (with_reducible refine (l01In_v H2.out _).mono ?_)); rintro e w' ⟨rfl, rfl⟩))
      go_ret
      exact ⟨ret_bool (by simp [segOkB, H1.out, H2.out, H3.out, H4.out, H5.out, H6.out, H7.out, H8.out, H9.out]), (by repeat (first | (with_reducible exact Ex.refl _) | (with_reducible apply Ex.plus_add) | (with_reducible apply Ex.plus_drew) | (with_reducible apply Ex.plus) | (with_reducible apply Ex.alloc) | (with_reducible apply Ex.drew)))⟩
    case true =>
    have H4 := hid q4
    have n_kind_6 : (kind != 6) = false := by simp at q4 ⊢; exact q4
    cases q5 : inB seq 0 4294967295
    case false =>
      have H5 := hid q5
      clear q5
      go_enter Try.func155, Try.ntmps155
      go_wp2_with (first
            | (go_at_call 123; (first | (with_reducible refine (l01In_v H1.out _).mono ?_) | (with_reducible refine (l01In_v H2.out _).mono ?_) | (with_reducible refine (l01In_v H5.out _).mono ?_)); rintro e w' ⟨rfl, rfl⟩))
      go_ret
      exact ⟨ret_bool (by simp [segOkB, H1.out, H2.out, H3.out, H4.out, H5.out]), (by repeat (first | (with_reducible exact Ex.refl _) | (with_reducible apply Ex.plus_add) | (with_reducible apply Ex.plus_drew) | (with_reducible apply Ex.plus) | (with_reducible apply Ex.alloc) | (with_reducible apply Ex.drew)))⟩
    case true =>
    have H5 := hid q5
    obtain ⟨b_seq_0, b_seq_1⟩ := inB_iff.1 q5
    clear q5
    cases q6 : inB ack 0 4294967295
    case false =>
      have H6 := hid q6
      clear q6
      go_enter Try.func155, Try.ntmps155
      go_wp2_with (first
            | (go_at_call 123; (first | (with_reducible refine (l01In_v H1.out _).mono ?_) | (with_reducible refine (l01In_v H2.out _).mono ?_) | (with_reducible refine (l01In_v H5.out _).mono ?_) | (with_reducible refine (l01In_v H6.out _).mono ?_)); rintro e w' ⟨rfl, rfl⟩))
      go_ret
      exact ⟨ret_bool (by simp [segOkB, H1.out, H2.out, H3.out, H4.out, H5.out, H6.out]), (by repeat (first | (with_reducible exact Ex.refl _) | (with_reducible apply Ex.plus_add) | (with_reducible apply Ex.plus_drew) | (with_reducible apply Ex.plus) | (with_reducible apply Ex.alloc) | (with_reducible apply Ex.drew)))⟩
    case true =>
    have H6 := hid q6
    obtain ⟨b_ack_0, b_ack_1⟩ := inB_iff.1 q6
    clear q6
    cases q7 : inB fl 0 31
    case false =>
      have H7 := hid q7
      clear q7
      go_enter Try.func155, Try.ntmps155
      go_wp2_with (first
            | (go_at_call 123; (first | (with_reducible refine (l01In_v H1.out _).mono ?_) | (with_reducible refine (l01In_v H2.out _).mono ?_) | (with_reducible refine (l01In_v H5.out _).mono ?_) | (with_reducible refine (l01In_v H6.out _).mono ?_) | (with_reducible refine (l01In_v H7.out _).mono ?_)); rintro e w' ⟨rfl, rfl⟩))
      go_ret
      exact ⟨ret_bool (by simp [segOkB, H1.out, H2.out, H3.out, H4.out, H5.out, H6.out, H7.out]), (by repeat (first | (with_reducible exact Ex.refl _) | (with_reducible apply Ex.plus_add) | (with_reducible apply Ex.plus_drew) | (with_reducible apply Ex.plus) | (with_reducible apply Ex.alloc) | (with_reducible apply Ex.drew)))⟩
    case true =>
    have H7 := hid q7
    obtain ⟨b_fl_0, b_fl_1⟩ := inB_iff.1 q7
    clear q7
    cases q8 : inB win 0 65535
    case false =>
      have H8 := hid q8
      clear q8
      go_enter Try.func155, Try.ntmps155
      go_wp2_with (first
            | (go_at_call 123; (first | (with_reducible refine (l01In_v H1.out _).mono ?_) | (with_reducible refine (l01In_v H2.out _).mono ?_) | (with_reducible refine (l01In_v H5.out _).mono ?_) | (with_reducible refine (l01In_v H6.out _).mono ?_) | (with_reducible refine (l01In_v H7.out _).mono ?_) | (with_reducible refine (l01In_v H8.out _).mono ?_)); rintro e w' ⟨rfl, rfl⟩))
      go_ret
      exact ⟨ret_bool (by simp [segOkB, H1.out, H2.out, H3.out, H4.out, H5.out, H6.out, H7.out, H8.out]), (by repeat (first | (with_reducible exact Ex.refl _) | (with_reducible apply Ex.plus_add) | (with_reducible apply Ex.plus_drew) | (with_reducible apply Ex.plus) | (with_reducible apply Ex.alloc) | (with_reducible apply Ex.drew)))⟩
    case true =>
    have H8 := hid q8
    obtain ⟨b_win_0, b_win_1⟩ := inB_iff.1 q8
    clear q8
    go_enter Try.func155, Try.ntmps155
    go_wp2_with (first
          | (go_at_call 123; (first | (with_reducible refine (l01In_v H1.out _).mono ?_) | (with_reducible refine (l01In_v H2.out _).mono ?_) | (with_reducible refine (l01In_v H5.out _).mono ?_) | (with_reducible refine (l01In_v H6.out _).mono ?_) | (with_reducible refine (l01In_v H7.out _).mono ?_) | (with_reducible refine (l01In_v H8.out _).mono ?_)); rintro e w' ⟨rfl, rfl⟩))
    go_ret
    exact ⟨ret_bool (by simp [segOkB, H1.out, H2.out, H3.out, H4.out, H5.out, H6.out, H7.out, H8.out]), (by repeat (first | (with_reducible exact Ex.refl _) | (with_reducible apply Ex.plus_add) | (with_reducible apply Ex.plus_drew) | (with_reducible apply Ex.plus) | (with_reducible apply Ex.alloc) | (with_reducible apply Ex.drew)))⟩
  case true =>
  have H3 := hid q3
  have t320 : decide (320 < bd.size) = true := q3
  have u320 : decide ((320 : Int) < bd.size) = true := by simp at q3 ⊢; omega
  clear q3
  go_enter Try.func155, Try.ntmps155
  go_wp2_with (first
        | (go_at_call 123; (first | (with_reducible refine (l01In_v H1.out _).mono ?_) | (with_reducible refine (l01In_v H2.out _).mono ?_)); rintro e w' ⟨rfl, rfl⟩))
  go_ret
  exact ⟨ret_bool (by simp [segOkB, H1.out, H2.out, H3.out]), (by repeat (first | (with_reducible exact Ex.refl _) | (with_reducible apply Ex.plus_add) | (with_reducible apply Ex.plus_drew) | (with_reducible apply Ex.plus) | (with_reducible apply Ex.alloc) | (with_reducible apply Ex.drew)))⟩

theorem segOkS_v {kind sp dp seq ack fl win : Int} {bd : ByteArray} (hb : bd.size ≤ maxLen) {q : Bool} (h : segOkB kind sp dp seq ack fl win bd.size = q) (w : World) :
    Calls Try.prog 155 #[.agg #[.int .i64 kind, .int .i64 sp, .int .i64 dp, .int .i64 seq, .int .i64 ack, .int .i64 fl, .int .i64 win, .string bd]] w fun e w' => e = .returned (.bool q) ∧ Ex w w' := h ▸ segOkS_any kind sp dp seq ack fl win bd hb w


set_option maxHeartbeats 1000000 in
theorem streaming_any (fl : Int) (h0 : 0 ≤ fl) (h1 : fl ≤ 31) (w : World) :
    Calls Try.prog 158 #[.int .i64 fl] w fun e w' => e = .returned (.bool (streamB fl)) ∧ w = w' := by
  obtain ⟨n, rfl⟩ := Int.eq_ofNat_of_zero_le h0
  have hf := flag_facts ⟨n, by omega⟩
  simp only at hf
  obtain ⟨f1, f2, f3⟩ := hf
  have hs : streamB n = (decide (16 ≤ n) && decide (n = 0 ∨ n = 1 ∨ n = 8 ∨ n = 9 ∨ n = 16 ∨ n = 17 ∨ n = 24 ∨ n = 25)) := by
    rw [Bool.eq_iff_iff]; simp [streamB]; omega
  rw [hs, ← f2]
  have g1 : (bits BinOp.and IntKind.i64 (n : Int) 16 != 0) = decide (16 ≤ n) := by
    rw [f1]; by_cases h : 16 ≤ n <;> simp [h]
  have f12 := f2
  clear f1 f3 hs
  cases e1 : decide (16 ≤ n) <;> cases e2 : (bits BinOp.andNot IntKind.i64 (n : Int) 25 == 0)
  all_goals
    rw [e1] at g1
    clear f2 f12 e1
    go_enter Try.func158, Try.ntmps158
    go_wp2
    go_ret
    exact ⟨rfl, rfl⟩
theorem streaming_v {fl : Int} {q : Bool} (h : streamB fl = q) (h0 : 0 ≤ fl) (h1 : fl ≤ 31) (w : World) : Calls Try.prog 158 #[.int .i64 fl] w fun e w' => e = .returned (.bool q) ∧ w = w' := h ▸ streaming_any fl h0 h1 w
set_option maxHeartbeats 1000000 in
theorem modulo_any (x n : Int) (h0 : 0 < n) (h1 : n ≤ 1000) (x0 : -1000000 ≤ x) (x1 : x ≤ 1000000) {r : Int} (hr : r = x % n) (w : World) :
    Calls Try.prog 137 #[.int .i64 x, .int .i64 n] w fun e w' => e = .returned (.int .i64 r) ∧ w = w' := by
  have e0 := Int.emod_nonneg x (show n ≠ 0 by omega)
  have e1 := Int.emod_lt_of_pos x h0
  by_cases hx : 0 ≤ x
  · have HR := hid hr
    clear hr
    go_enter Try.func137, Try.ntmps137
    go_wp2
    go_ret
    exact ⟨ret_int HR.out.symm, rfl⟩
  · have t0 : x.tmod n = -((-x) % n) := by
      rw [← Int.tmod_eq_emod_of_nonneg (show 0 ≤ -x by omega), Int.neg_tmod, Int.neg_neg]
    have p0 := Int.emod_nonneg (-x) (show n ≠ 0 by omega)
    have p1 := Int.emod_lt_of_pos (-x) h0
    have t1 : r = if x.tmod n < 0 then x.tmod n + n else x.tmod n := by
      have a1 := Int.mul_ediv_add_emod x n
      have a2 := Int.mul_ediv_add_emod (-x) n
      rw [hr]
      have key : ∃ k : Int, x % n + (-x) % n = n * k := ⟨-(x / n) - (-x) / n, by rw [Int.mul_sub, Int.mul_neg]; omega⟩
      obtain ⟨k, hk⟩ := key
      have k0 : 0 ≤ k := by
        rcases Int.lt_or_le k 0 with h | h
        · have : n * k < 0 := Int.mul_neg_of_pos_of_neg h0 h
          omega
        · exact h
      have k1 : k ≤ 1 := by
        rcases Int.lt_or_le 1 k with h | h
        · have : n * 2 ≤ n * k := Int.mul_le_mul_of_nonneg_left (by omega) (by omega)
          omega
        · exact h
      rcases (by omega : k = 0 ∨ k = 1) with rfl | rfl
      · simp at hk; rw [t0, if_neg (by omega)]; omega
      · rw [Int.mul_one] at hk; rw [t0]; split <;> omega
    have T1 := hid t1
    have q0 : -n < x.tmod n := by omega
    have q1 : x.tmod n ≤ 0 := by omega
    clear t0 t1 hr e0 e1 p0 p1
    by_cases hz : x.tmod n < 0
    · have HZ := hid hz
      go_enter Try.func137, Try.ntmps137
      go_wp2
      go_ret
      exact ⟨ret_int (by rw [T1.out, if_pos (by have := HZ.out; omega)]), rfl⟩
    · have HZ := hid hz
      go_enter Try.func137, Try.ntmps137
      go_wp2
      go_ret
      exact ⟨ret_int (by rw [T1.out, if_neg (by have := HZ.out; omega)]), rfl⟩


set_option maxRecDepth 100000 in
set_option maxHeartbeats 1000000 in
theorem ringUsed_any (b s h t : Int) (hs : sizeB s = true) (h0 : 0 ≤ h) (h1 : h ≤ 2 * s - 1) (t0 : 0 ≤ t) (t1 : t ≤ 2 * s - 1) (w : World) :
    Calls Try.prog 88 #[.agg #[.int .i64 b, .int .i64 s, .int .i64 h, .int .i64 t]] w fun e w' => e = .returned (.int .i64 ((t - h) % (2 * s))) ∧ Ex w w' := by
  have hs2 := sizeB_cases hs
  have hs3 : 2 ≤ s ∧ s ≤ 16 := by omega
  obtain ⟨s0, s1⟩ := hs3
  have HS := hid hs
  have m1 : t = t % (2 * s) := (Int.emod_eq_of_lt t0 (by omega)).symm
  have m2 : h = h % (2 * s) := (Int.emod_eq_of_lt h0 (by omega)).symm
  have M1 := hid m1
  have M2 := hid m2
  clear hs hs2 m1 m2
  go_enter Try.func88, Try.ntmps88
  go_wp2_with (first
    | (go_at_call 63; (with_reducible refine (ringSize_v HS.out _).mono ?_); rintro e w' ⟨rfl, rfl⟩)
    | fail)
  refine wp_region_ext (by kernel_rfl) (by kernel_rfl) ?_
  repeat (go_big_quiet_step ((go_at_call 137; first | (with_reducible exact Calls.ext_of_same (modulo_any t _ (by omega) (by omega) (by omega) (by omega) M1.out _)) | (with_reducible exact Calls.ext_of_same (modulo_any h _ (by omega) (by omega) (by omega) (by omega) M2.out _)) | (with_reducible exact Calls.ext_of_same (modulo_any (t - h) _ (by omega) (by omega) (by omega) (by omega) rfl _)))))
  refine wpQuiet_nil ?_
  intro g
  go_wp2
  go_ret
  exact ⟨rfl, (by repeat (first | (with_reducible exact Ex.refl _) | (with_reducible apply Ex.plus_add) | (with_reducible apply Ex.plus_drew) | (with_reducible apply Ex.plus) | (with_reducible apply Ex.alloc) | (with_reducible apply Ex.drew)))⟩
set_option maxRecDepth 100000 in
set_option maxHeartbeats 1000000 in
theorem ringUsedS_any (b s h t : Int) (hs : sizeB s = true) (h0 : 0 ≤ h) (h1 : h ≤ 2 * s - 1) (t0 : 0 ≤ t) (t1 : t ≤ 2 * s - 1) (w : World) :
    Calls Try.prog 84 #[.agg #[.int .i64 b, .int .i64 s, .int .i64 h, .int .i64 t]] w fun e w' => e = .returned (.int .i64 ((t - h) % (2 * s))) ∧ Ex w w' := by
  have hs2 := sizeB_cases hs
  have a1 : bits .and .i64 (t - h) 3 = (t - h) % 4 := and_mask_i64 _ 2 (by decide)
  have a2 : bits .and .i64 (t - h) 7 = (t - h) % 8 := and_mask_i64 _ 3 (by decide)
  have a3 : bits .and .i64 (t - h) 15 = (t - h) % 16 := and_mask_i64 _ 4 (by decide)
  have a4 : bits .and .i64 (t - h) 31 = (t - h) % 32 := and_mask_i64 _ 5 (by decide)
  have A1 := hid a1
  have A2 := hid a2
  have A3 := hid a3
  have A4 := hid a4
  clear a1 a2 a3 a4
  rcases hs2 with rfl | rfl | rfl | rfl
  all_goals
    clear hs
    go_enter Try.func84, Try.ntmps84
    go_wp2_with (go_at_call 124; (with_reducible refine (l20Size_v (q := true) (by decide) _).mono ?_); rintro e w' ⟨rfl, rfl⟩)
    go_ret
    exact ⟨ret_int (by first | exact A1.out | exact A2.out | exact A3.out | exact A4.out), (by repeat (first | (with_reducible exact Ex.refl _) | (with_reducible apply Ex.plus_add) | (with_reducible apply Ex.plus_drew) | (with_reducible apply Ex.plus) | (with_reducible apply Ex.alloc) | (with_reducible apply Ex.drew)))⟩

set_option maxRecDepth 100000 in
set_option maxHeartbeats 2000000 in
theorem ringOk_any (b s h t : Int) (w : World) :
    Calls Try.prog 87 #[.agg #[.int .i64 b, .int .i64 s, .int .i64 h, .int .i64 t]] w fun e w' => e = .returned (.bool (ringOkB b s h t)) ∧ Ex w w' := by
  cases q1 : inB b 0 130944
  case false =>
    have H1 := hid q1
    clear q1
    go_enter Try.func87, Try.ntmps87
    go_wp2_with (first
          | (go_at_call 62; (first | (with_reducible refine (between_v H1.out _).mono ?_)); rintro e w' ⟨rfl, rfl⟩)
          | (go_at_call 88; (with_reducible refine (ringUsed_any _ _ _ _ H2.out (by omega) (by omega) (by omega) (by omega) _).mono ?_); rintro e w' ⟨rfl, hx⟩; obtain ⟨g, rfl⟩ := hx))
    try (
      refine wp_region_ext (by kernel_rfl) (by kernel_rfl) ?_
      repeat (go_big_quiet_step ((first | (go_at_call 62; first | (with_reducible exact Calls.ext_of_same (between_v H1.out _)) | (with_reducible exact Calls.ext_of2_same (between_v H1.out _))) | (go_at_call 88; first | (with_reducible exact Calls.ext_of (ringUsed_any _ _ _ _ H2.out (by omega) (by omega) (by omega) (by omega) _)) | (with_reducible exact Calls.ext_of2 (ringUsed_any _ _ _ _ H2.out (by omega) (by omega) (by omega) (by omega) _))))))
      refine wpQuiet_nil ?_
      intro g
      go_wp2_with (first
            | (go_at_call 62; (first | (with_reducible refine (between_v H1.out _).mono ?_)); rintro e w' ⟨rfl, rfl⟩)
            | (go_at_call 88; (with_reducible refine (ringUsed_any _ _ _ _ H2.out (by omega) (by omega) (by omega) (by omega) _).mono ?_); rintro e w' ⟨rfl, hx⟩; obtain ⟨g, rfl⟩ := hx)))
    go_ret
    exact ⟨ret_bool (by simp [ringOkB, H1.out]), (by repeat (first | (with_reducible exact Ex.refl _) | (with_reducible apply Ex.plus_add) | (with_reducible apply Ex.plus_drew) | (with_reducible apply Ex.plus) | (with_reducible apply Ex.alloc) | (with_reducible apply Ex.drew)))⟩
  case true =>
  have H1 := hid q1
  obtain ⟨b_b_0, b_b_1⟩ := inB_iff.1 q1
  clear q1
  cases q2 : sizeB s
  case false =>
    have H2 := hid q2
    clear q2
    go_enter Try.func87, Try.ntmps87
    go_wp2_with (first
          | (go_at_call 62; (first | (with_reducible refine (between_v H1.out _).mono ?_)); rintro e w' ⟨rfl, rfl⟩)
          | (go_at_call 63; (first | (with_reducible refine (ringSize_v H2.out _).mono ?_)); rintro e w' ⟨rfl, rfl⟩)
          | (go_at_call 88; (with_reducible refine (ringUsed_any _ _ _ _ H2.out (by omega) (by omega) (by omega) (by omega) _).mono ?_); rintro e w' ⟨rfl, hx⟩; obtain ⟨g, rfl⟩ := hx))
    try (
      refine wp_region_ext (by kernel_rfl) (by kernel_rfl) ?_
      repeat (go_big_quiet_step ((first | (go_at_call 62; first | (with_reducible exact Calls.ext_of_same (between_v H1.out _)) | (with_reducible exact Calls.ext_of2_same (between_v H1.out _))) | (go_at_call 63; first | (with_reducible exact Calls.ext_of_same (ringSize_v H2.out _)) | (with_reducible exact Calls.ext_of2_same (ringSize_v H2.out _))) | (go_at_call 88; first | (with_reducible exact Calls.ext_of (ringUsed_any _ _ _ _ H2.out (by omega) (by omega) (by omega) (by omega) _)) | (with_reducible exact Calls.ext_of2 (ringUsed_any _ _ _ _ H2.out (by omega) (by omega) (by omega) (by omega) _))))))
      refine wpQuiet_nil ?_
      intro g
      go_wp2_with (first
            | (go_at_call 62; (first | (with_reducible refine (between_v H1.out _).mono ?_)); rintro e w' ⟨rfl, rfl⟩)
            | (go_at_call 63; (first | (with_reducible refine (ringSize_v H2.out _).mono ?_)); rintro e w' ⟨rfl, rfl⟩)
            | (go_at_call 88; (with_reducible refine (ringUsed_any _ _ _ _ H2.out (by omega) (by omega) (by omega) (by omega) _).mono ?_); rintro e w' ⟨rfl, hx⟩; obtain ⟨g, rfl⟩ := hx)))
    go_ret
    exact ⟨ret_bool (by simp [ringOkB, H1.out, H2.out]), (by repeat (first | (with_reducible exact Ex.refl _) | (with_reducible apply Ex.plus_add) | (with_reducible apply Ex.plus_drew) | (with_reducible apply Ex.plus) | (with_reducible apply Ex.alloc) | (with_reducible apply Ex.drew)))⟩
  case true =>
  have H2 := hid q2
  have hsz := sizeB_cases q2
  obtain ⟨s0, s1⟩ : 2 ≤ s ∧ s ≤ 16 := by omega
  clear hsz
  clear q2
  cases q3 : inB h 0 (2 * s - 1)
  case false =>
    have H3 := hid q3
    clear q3
    go_enter Try.func87, Try.ntmps87
    go_wp2_with (first
          | (go_at_call 62; (first | (with_reducible refine (between_v H1.out _).mono ?_) | (with_reducible refine (between_v H3.out _).mono ?_)); rintro e w' ⟨rfl, rfl⟩)
          | (go_at_call 63; (first | (with_reducible refine (ringSize_v H2.out _).mono ?_)); rintro e w' ⟨rfl, rfl⟩)
          | (go_at_call 88; (with_reducible refine (ringUsed_any _ _ _ _ H2.out (by omega) (by omega) (by omega) (by omega) _).mono ?_); rintro e w' ⟨rfl, hx⟩; obtain ⟨g, rfl⟩ := hx))
    try (
      refine wp_region_ext (by kernel_rfl) (by kernel_rfl) ?_
      repeat (go_big_quiet_step ((first | (go_at_call 62; first | (with_reducible exact Calls.ext_of_same (between_v H1.out _)) | (with_reducible exact Calls.ext_of2_same (between_v H1.out _))) | (go_at_call 63; first | (with_reducible exact Calls.ext_of_same (ringSize_v H2.out _)) | (with_reducible exact Calls.ext_of2_same (ringSize_v H2.out _))) | (go_at_call 62; first | (with_reducible exact Calls.ext_of_same (between_v H3.out _)) | (with_reducible exact Calls.ext_of2_same (between_v H3.out _))) | (go_at_call 88; first | (with_reducible exact Calls.ext_of (ringUsed_any _ _ _ _ H2.out (by omega) (by omega) (by omega) (by omega) _)) | (with_reducible exact Calls.ext_of2 (ringUsed_any _ _ _ _ H2.out (by omega) (by omega) (by omega) (by omega) _))))))
      refine wpQuiet_nil ?_
      intro g
      go_wp2_with (first
            | (go_at_call 62; (first | (with_reducible refine (between_v H1.out _).mono ?_) | (with_reducible refine (between_v H3.out _).mono ?_)); rintro e w' ⟨rfl, rfl⟩)
            | (go_at_call 63; (first | (with_reducible refine (ringSize_v H2.out _).mono ?_)); rintro e w' ⟨rfl, rfl⟩)
            | (go_at_call 88; (with_reducible refine (ringUsed_any _ _ _ _ H2.out (by omega) (by omega) (by omega) (by omega) _).mono ?_); rintro e w' ⟨rfl, hx⟩; obtain ⟨g, rfl⟩ := hx)))
    go_ret
    exact ⟨ret_bool (by simp [ringOkB, H1.out, H2.out, H3.out]), (by repeat (first | (with_reducible exact Ex.refl _) | (with_reducible apply Ex.plus_add) | (with_reducible apply Ex.plus_drew) | (with_reducible apply Ex.plus) | (with_reducible apply Ex.alloc) | (with_reducible apply Ex.drew)))⟩
  case true =>
  have H3 := hid q3
  obtain ⟨b_h_0, b_h_1⟩ := inB_iff.1 q3
  clear q3
  cases q4 : inB t 0 (2 * s - 1)
  case false =>
    have H4 := hid q4
    clear q4
    go_enter Try.func87, Try.ntmps87
    go_wp2_with (first
          | (go_at_call 62; (first | (with_reducible refine (between_v H1.out _).mono ?_) | (with_reducible refine (between_v H3.out _).mono ?_) | (with_reducible refine (between_v H4.out _).mono ?_)); rintro e w' ⟨rfl, rfl⟩)
          | (go_at_call 63; (first | (with_reducible refine (ringSize_v H2.out _).mono ?_)); rintro e w' ⟨rfl, rfl⟩)
          | (go_at_call 88; (with_reducible refine (ringUsed_any _ _ _ _ H2.out (by omega) (by omega) (by omega) (by omega) _).mono ?_); rintro e w' ⟨rfl, hx⟩; obtain ⟨g, rfl⟩ := hx))
    try (
      refine wp_region_ext (by kernel_rfl) (by kernel_rfl) ?_
      repeat (go_big_quiet_step ((first | (go_at_call 62; first | (with_reducible exact Calls.ext_of_same (between_v H1.out _)) | (with_reducible exact Calls.ext_of2_same (between_v H1.out _))) | (go_at_call 63; first | (with_reducible exact Calls.ext_of_same (ringSize_v H2.out _)) | (with_reducible exact Calls.ext_of2_same (ringSize_v H2.out _))) | (go_at_call 62; first | (with_reducible exact Calls.ext_of_same (between_v H3.out _)) | (with_reducible exact Calls.ext_of2_same (between_v H3.out _))) | (go_at_call 62; first | (with_reducible exact Calls.ext_of_same (between_v H4.out _)) | (with_reducible exact Calls.ext_of2_same (between_v H4.out _))) | (go_at_call 88; first | (with_reducible exact Calls.ext_of (ringUsed_any _ _ _ _ H2.out (by omega) (by omega) (by omega) (by omega) _)) | (with_reducible exact Calls.ext_of2 (ringUsed_any _ _ _ _ H2.out (by omega) (by omega) (by omega) (by omega) _))))))
      refine wpQuiet_nil ?_
      intro g
      go_wp2_with (first
            | (go_at_call 62; (first | (with_reducible refine (between_v H1.out _).mono ?_) | (with_reducible refine (between_v H3.out _).mono ?_) | (with_reducible refine (between_v H4.out _).mono ?_)); rintro e w' ⟨rfl, rfl⟩)
            | (go_at_call 63; (first | (with_reducible refine (ringSize_v H2.out _).mono ?_)); rintro e w' ⟨rfl, rfl⟩)
            | (go_at_call 88; (with_reducible refine (ringUsed_any _ _ _ _ H2.out (by omega) (by omega) (by omega) (by omega) _).mono ?_); rintro e w' ⟨rfl, hx⟩; obtain ⟨g, rfl⟩ := hx)))
    go_ret
    exact ⟨ret_bool (by simp [ringOkB, H1.out, H2.out, H3.out, H4.out]), (by repeat (first | (with_reducible exact Ex.refl _) | (with_reducible apply Ex.plus_add) | (with_reducible apply Ex.plus_drew) | (with_reducible apply Ex.plus) | (with_reducible apply Ex.alloc) | (with_reducible apply Ex.drew)))⟩
  case true =>
  have H4 := hid q4
  obtain ⟨b_t_0, b_t_1⟩ := inB_iff.1 q4
  clear q4
  cases q5 : decide ((t - h) % (2 * s) ≤ s)
  case false =>
    have H5 := hid q5
    go_enter Try.func87, Try.ntmps87
    go_wp2_with (first
          | (go_at_call 62; (first | (with_reducible refine (between_v H1.out _).mono ?_) | (with_reducible refine (between_v H3.out _).mono ?_) | (with_reducible refine (between_v H4.out _).mono ?_)); rintro e w' ⟨rfl, rfl⟩)
          | (go_at_call 63; (first | (with_reducible refine (ringSize_v H2.out _).mono ?_)); rintro e w' ⟨rfl, rfl⟩)
          | (go_at_call 88; (with_reducible refine (ringUsed_any _ _ _ _ H2.out (by omega) (by omega) (by omega) (by omega) _).mono ?_); rintro e w' ⟨rfl, hx⟩; obtain ⟨g, rfl⟩ := hx))
    try (
      refine wp_region_ext (by kernel_rfl) (by kernel_rfl) ?_
      repeat (go_big_quiet_step ((first | (go_at_call 62; first | (with_reducible exact Calls.ext_of_same (between_v H1.out _)) | (with_reducible exact Calls.ext_of2_same (between_v H1.out _))) | (go_at_call 63; first | (with_reducible exact Calls.ext_of_same (ringSize_v H2.out _)) | (with_reducible exact Calls.ext_of2_same (ringSize_v H2.out _))) | (go_at_call 62; first | (with_reducible exact Calls.ext_of_same (between_v H3.out _)) | (with_reducible exact Calls.ext_of2_same (between_v H3.out _))) | (go_at_call 62; first | (with_reducible exact Calls.ext_of_same (between_v H4.out _)) | (with_reducible exact Calls.ext_of2_same (between_v H4.out _))) | (go_at_call 88; first | (with_reducible exact Calls.ext_of (ringUsed_any _ _ _ _ H2.out (by omega) (by omega) (by omega) (by omega) _)) | (with_reducible exact Calls.ext_of2 (ringUsed_any _ _ _ _ H2.out (by omega) (by omega) (by omega) (by omega) _))))))
      refine wpQuiet_nil ?_
      intro g
      go_wp2_with (first
            | (go_at_call 62; (first | (with_reducible refine (between_v H1.out _).mono ?_) | (with_reducible refine (between_v H3.out _).mono ?_) | (with_reducible refine (between_v H4.out _).mono ?_)); rintro e w' ⟨rfl, rfl⟩)
            | (go_at_call 63; (first | (with_reducible refine (ringSize_v H2.out _).mono ?_)); rintro e w' ⟨rfl, rfl⟩)
            | (go_at_call 88; (with_reducible refine (ringUsed_any _ _ _ _ H2.out (by omega) (by omega) (by omega) (by omega) _).mono ?_); rintro e w' ⟨rfl, hx⟩; obtain ⟨g, rfl⟩ := hx)))
    go_ret
    exact ⟨ret_bool (by simp [ringOkB, H1.out, H2.out, H3.out, H4.out, H5.out]), (by repeat (first | (with_reducible exact Ex.refl _) | (with_reducible apply Ex.plus_add) | (with_reducible apply Ex.plus_drew) | (with_reducible apply Ex.plus) | (with_reducible apply Ex.alloc) | (with_reducible apply Ex.drew)))⟩
  case true =>
  have H5 := hid q5
  go_enter Try.func87, Try.ntmps87
  go_wp2_with (first
        | (go_at_call 62; (first | (with_reducible refine (between_v H1.out _).mono ?_) | (with_reducible refine (between_v H3.out _).mono ?_) | (with_reducible refine (between_v H4.out _).mono ?_)); rintro e w' ⟨rfl, rfl⟩)
        | (go_at_call 63; (first | (with_reducible refine (ringSize_v H2.out _).mono ?_)); rintro e w' ⟨rfl, rfl⟩)
        | (go_at_call 88; (with_reducible refine (ringUsed_any _ _ _ _ H2.out (by omega) (by omega) (by omega) (by omega) _).mono ?_); rintro e w' ⟨rfl, hx⟩; obtain ⟨g, rfl⟩ := hx))
  try (
    refine wp_region_ext (by kernel_rfl) (by kernel_rfl) ?_
    repeat (go_big_quiet_step ((first | (go_at_call 62; first | (with_reducible exact Calls.ext_of_same (between_v H1.out _)) | (with_reducible exact Calls.ext_of2_same (between_v H1.out _))) | (go_at_call 63; first | (with_reducible exact Calls.ext_of_same (ringSize_v H2.out _)) | (with_reducible exact Calls.ext_of2_same (ringSize_v H2.out _))) | (go_at_call 62; first | (with_reducible exact Calls.ext_of_same (between_v H3.out _)) | (with_reducible exact Calls.ext_of2_same (between_v H3.out _))) | (go_at_call 62; first | (with_reducible exact Calls.ext_of_same (between_v H4.out _)) | (with_reducible exact Calls.ext_of2_same (between_v H4.out _))) | (go_at_call 88; first | (with_reducible exact Calls.ext_of (ringUsed_any _ _ _ _ H2.out (by omega) (by omega) (by omega) (by omega) _)) | (with_reducible exact Calls.ext_of2 (ringUsed_any _ _ _ _ H2.out (by omega) (by omega) (by omega) (by omega) _))))))
    refine wpQuiet_nil ?_
    intro g
    go_wp2_with (first
          | (go_at_call 62; (first | (with_reducible refine (between_v H1.out _).mono ?_) | (with_reducible refine (between_v H3.out _).mono ?_) | (with_reducible refine (between_v H4.out _).mono ?_)); rintro e w' ⟨rfl, rfl⟩)
          | (go_at_call 63; (first | (with_reducible refine (ringSize_v H2.out _).mono ?_)); rintro e w' ⟨rfl, rfl⟩)
          | (go_at_call 88; (with_reducible refine (ringUsed_any _ _ _ _ H2.out (by omega) (by omega) (by omega) (by omega) _).mono ?_); rintro e w' ⟨rfl, hx⟩; obtain ⟨g, rfl⟩ := hx)))
  go_ret
  exact ⟨ret_bool (by simp [ringOkB, H1.out, H2.out, H3.out, H4.out, H5.out]), (by repeat (first | (with_reducible exact Ex.refl _) | (with_reducible apply Ex.plus_add) | (with_reducible apply Ex.plus_drew) | (with_reducible apply Ex.plus) | (with_reducible apply Ex.alloc) | (with_reducible apply Ex.drew)))⟩

set_option maxRecDepth 100000 in
set_option maxHeartbeats 2000000 in
theorem ringOkS_any (b s h t : Int) (w : World) :
    Calls Try.prog 83 #[.agg #[.int .i64 b, .int .i64 s, .int .i64 h, .int .i64 t]] w fun e w' => e = .returned (.bool (ringOkB b s h t)) ∧ Ex w w' := by
  cases q1 : inB b 0 130944
  case false =>
    have H1 := hid q1
    clear q1
    go_enter Try.func83, Try.ntmps83
    go_wp2_with (first
          | (go_at_call 123; (first | (with_reducible refine (l01In_v H1.out _).mono ?_)); rintro e w' ⟨rfl, rfl⟩)
          | (go_at_call 84; (with_reducible refine (ringUsedS_any _ _ _ _ H2.out (by omega) (by omega) (by omega) (by omega) _).mono ?_); rintro e w' ⟨rfl, hx⟩; obtain ⟨g, rfl⟩ := hx))
    try (
      refine wp_region_ext (by kernel_rfl) (by kernel_rfl) ?_
      repeat (go_big_quiet_step ((first | (go_at_call 123; first | (with_reducible exact Calls.ext_of_same (l01In_v H1.out _)) | (with_reducible exact Calls.ext_of2_same (l01In_v H1.out _))) | (go_at_call 84; first | (with_reducible exact Calls.ext_of (ringUsedS_any _ _ _ _ H2.out (by omega) (by omega) (by omega) (by omega) _)) | (with_reducible exact Calls.ext_of2 (ringUsedS_any _ _ _ _ H2.out (by omega) (by omega) (by omega) (by omega) _))))))
      refine wpQuiet_nil ?_
      intro g
      go_wp2_with (first
            | (go_at_call 123; (first | (with_reducible refine (l01In_v H1.out _).mono ?_)); rintro e w' ⟨rfl, rfl⟩)
            | (go_at_call 84; (with_reducible refine (ringUsedS_any _ _ _ _ H2.out (by omega) (by omega) (by omega) (by omega) _).mono ?_); rintro e w' ⟨rfl, hx⟩; obtain ⟨g, rfl⟩ := hx)))
    go_ret
    exact ⟨ret_bool (by simp [ringOkB, H1.out]), (by repeat (first | (with_reducible exact Ex.refl _) | (with_reducible apply Ex.plus_add) | (with_reducible apply Ex.plus_drew) | (with_reducible apply Ex.plus) | (with_reducible apply Ex.alloc) | (with_reducible apply Ex.drew)))⟩
  case true =>
  have H1 := hid q1
  obtain ⟨b_b_0, b_b_1⟩ := inB_iff.1 q1
  clear q1
  cases q2 : sizeB s
  case false =>
    have H2 := hid q2
    clear q2
    go_enter Try.func83, Try.ntmps83
    go_wp2_with (first
          | (go_at_call 123; (first | (with_reducible refine (l01In_v H1.out _).mono ?_)); rintro e w' ⟨rfl, rfl⟩)
          | (go_at_call 124; (first | (with_reducible refine (l20Size_v H2.out _).mono ?_)); rintro e w' ⟨rfl, rfl⟩)
          | (go_at_call 84; (with_reducible refine (ringUsedS_any _ _ _ _ H2.out (by omega) (by omega) (by omega) (by omega) _).mono ?_); rintro e w' ⟨rfl, hx⟩; obtain ⟨g, rfl⟩ := hx))
    try (
      refine wp_region_ext (by kernel_rfl) (by kernel_rfl) ?_
      repeat (go_big_quiet_step ((first | (go_at_call 123; first | (with_reducible exact Calls.ext_of_same (l01In_v H1.out _)) | (with_reducible exact Calls.ext_of2_same (l01In_v H1.out _))) | (go_at_call 124; first | (with_reducible exact Calls.ext_of_same (l20Size_v H2.out _)) | (with_reducible exact Calls.ext_of2_same (l20Size_v H2.out _))) | (go_at_call 84; first | (with_reducible exact Calls.ext_of (ringUsedS_any _ _ _ _ H2.out (by omega) (by omega) (by omega) (by omega) _)) | (with_reducible exact Calls.ext_of2 (ringUsedS_any _ _ _ _ H2.out (by omega) (by omega) (by omega) (by omega) _))))))
      refine wpQuiet_nil ?_
      intro g
      go_wp2_with (first
            | (go_at_call 123; (first | (with_reducible refine (l01In_v H1.out _).mono ?_)); rintro e w' ⟨rfl, rfl⟩)
            | (go_at_call 124; (first | (with_reducible refine (l20Size_v H2.out _).mono ?_)); rintro e w' ⟨rfl, rfl⟩)
            | (go_at_call 84; (with_reducible refine (ringUsedS_any _ _ _ _ H2.out (by omega) (by omega) (by omega) (by omega) _).mono ?_); rintro e w' ⟨rfl, hx⟩; obtain ⟨g, rfl⟩ := hx)))
    go_ret
    exact ⟨ret_bool (by simp [ringOkB, H1.out, H2.out]), (by repeat (first | (with_reducible exact Ex.refl _) | (with_reducible apply Ex.plus_add) | (with_reducible apply Ex.plus_drew) | (with_reducible apply Ex.plus) | (with_reducible apply Ex.alloc) | (with_reducible apply Ex.drew)))⟩
  case true =>
  have H2 := hid q2
  have hsz := sizeB_cases q2
  obtain ⟨s0, s1⟩ : 2 ≤ s ∧ s ≤ 16 := by omega
  clear hsz
  clear q2
  cases q3 : inB h 0 (2 * s - 1)
  case false =>
    have H3 := hid q3
    clear q3
    go_enter Try.func83, Try.ntmps83
    go_wp2_with (first
          | (go_at_call 123; (first | (with_reducible refine (l01In_v H1.out _).mono ?_) | (with_reducible refine (l01In_v H3.out _).mono ?_)); rintro e w' ⟨rfl, rfl⟩)
          | (go_at_call 124; (first | (with_reducible refine (l20Size_v H2.out _).mono ?_)); rintro e w' ⟨rfl, rfl⟩)
          | (go_at_call 84; (with_reducible refine (ringUsedS_any _ _ _ _ H2.out (by omega) (by omega) (by omega) (by omega) _).mono ?_); rintro e w' ⟨rfl, hx⟩; obtain ⟨g, rfl⟩ := hx))
    try (
      refine wp_region_ext (by kernel_rfl) (by kernel_rfl) ?_
      repeat (go_big_quiet_step ((first | (go_at_call 123; first | (with_reducible exact Calls.ext_of_same (l01In_v H1.out _)) | (with_reducible exact Calls.ext_of2_same (l01In_v H1.out _))) | (go_at_call 124; first | (with_reducible exact Calls.ext_of_same (l20Size_v H2.out _)) | (with_reducible exact Calls.ext_of2_same (l20Size_v H2.out _))) | (go_at_call 123; first | (with_reducible exact Calls.ext_of_same (l01In_v H3.out _)) | (with_reducible exact Calls.ext_of2_same (l01In_v H3.out _))) | (go_at_call 84; first | (with_reducible exact Calls.ext_of (ringUsedS_any _ _ _ _ H2.out (by omega) (by omega) (by omega) (by omega) _)) | (with_reducible exact Calls.ext_of2 (ringUsedS_any _ _ _ _ H2.out (by omega) (by omega) (by omega) (by omega) _))))))
      refine wpQuiet_nil ?_
      intro g
      go_wp2_with (first
            | (go_at_call 123; (first | (with_reducible refine (l01In_v H1.out _).mono ?_) | (with_reducible refine (l01In_v H3.out _).mono ?_)); rintro e w' ⟨rfl, rfl⟩)
            | (go_at_call 124; (first | (with_reducible refine (l20Size_v H2.out _).mono ?_)); rintro e w' ⟨rfl, rfl⟩)
            | (go_at_call 84; (with_reducible refine (ringUsedS_any _ _ _ _ H2.out (by omega) (by omega) (by omega) (by omega) _).mono ?_); rintro e w' ⟨rfl, hx⟩; obtain ⟨g, rfl⟩ := hx)))
    go_ret
    exact ⟨ret_bool (by simp [ringOkB, H1.out, H2.out, H3.out]), (by repeat (first | (with_reducible exact Ex.refl _) | (with_reducible apply Ex.plus_add) | (with_reducible apply Ex.plus_drew) | (with_reducible apply Ex.plus) | (with_reducible apply Ex.alloc) | (with_reducible apply Ex.drew)))⟩
  case true =>
  have H3 := hid q3
  obtain ⟨b_h_0, b_h_1⟩ := inB_iff.1 q3
  clear q3
  cases q4 : inB t 0 (2 * s - 1)
  case false =>
    have H4 := hid q4
    clear q4
    go_enter Try.func83, Try.ntmps83
    go_wp2_with (first
          | (go_at_call 123; (first | (with_reducible refine (l01In_v H1.out _).mono ?_) | (with_reducible refine (l01In_v H3.out _).mono ?_) | (with_reducible refine (l01In_v H4.out _).mono ?_)); rintro e w' ⟨rfl, rfl⟩)
          | (go_at_call 124; (first | (with_reducible refine (l20Size_v H2.out _).mono ?_)); rintro e w' ⟨rfl, rfl⟩)
          | (go_at_call 84; (with_reducible refine (ringUsedS_any _ _ _ _ H2.out (by omega) (by omega) (by omega) (by omega) _).mono ?_); rintro e w' ⟨rfl, hx⟩; obtain ⟨g, rfl⟩ := hx))
    try (
      refine wp_region_ext (by kernel_rfl) (by kernel_rfl) ?_
      repeat (go_big_quiet_step ((first | (go_at_call 123; first | (with_reducible exact Calls.ext_of_same (l01In_v H1.out _)) | (with_reducible exact Calls.ext_of2_same (l01In_v H1.out _))) | (go_at_call 124; first | (with_reducible exact Calls.ext_of_same (l20Size_v H2.out _)) | (with_reducible exact Calls.ext_of2_same (l20Size_v H2.out _))) | (go_at_call 123; first | (with_reducible exact Calls.ext_of_same (l01In_v H3.out _)) | (with_reducible exact Calls.ext_of2_same (l01In_v H3.out _))) | (go_at_call 123; first | (with_reducible exact Calls.ext_of_same (l01In_v H4.out _)) | (with_reducible exact Calls.ext_of2_same (l01In_v H4.out _))) | (go_at_call 84; first | (with_reducible exact Calls.ext_of (ringUsedS_any _ _ _ _ H2.out (by omega) (by omega) (by omega) (by omega) _)) | (with_reducible exact Calls.ext_of2 (ringUsedS_any _ _ _ _ H2.out (by omega) (by omega) (by omega) (by omega) _))))))
      refine wpQuiet_nil ?_
      intro g
      go_wp2_with (first
            | (go_at_call 123; (first | (with_reducible refine (l01In_v H1.out _).mono ?_) | (with_reducible refine (l01In_v H3.out _).mono ?_) | (with_reducible refine (l01In_v H4.out _).mono ?_)); rintro e w' ⟨rfl, rfl⟩)
            | (go_at_call 124; (first | (with_reducible refine (l20Size_v H2.out _).mono ?_)); rintro e w' ⟨rfl, rfl⟩)
            | (go_at_call 84; (with_reducible refine (ringUsedS_any _ _ _ _ H2.out (by omega) (by omega) (by omega) (by omega) _).mono ?_); rintro e w' ⟨rfl, hx⟩; obtain ⟨g, rfl⟩ := hx)))
    go_ret
    exact ⟨ret_bool (by simp [ringOkB, H1.out, H2.out, H3.out, H4.out]), (by repeat (first | (with_reducible exact Ex.refl _) | (with_reducible apply Ex.plus_add) | (with_reducible apply Ex.plus_drew) | (with_reducible apply Ex.plus) | (with_reducible apply Ex.alloc) | (with_reducible apply Ex.drew)))⟩
  case true =>
  have H4 := hid q4
  obtain ⟨b_t_0, b_t_1⟩ := inB_iff.1 q4
  clear q4
  cases q5 : decide ((t - h) % (2 * s) ≤ s)
  case false =>
    have H5 := hid q5
    go_enter Try.func83, Try.ntmps83
    go_wp2_with (first
          | (go_at_call 123; (first | (with_reducible refine (l01In_v H1.out _).mono ?_) | (with_reducible refine (l01In_v H3.out _).mono ?_) | (with_reducible refine (l01In_v H4.out _).mono ?_)); rintro e w' ⟨rfl, rfl⟩)
          | (go_at_call 124; (first | (with_reducible refine (l20Size_v H2.out _).mono ?_)); rintro e w' ⟨rfl, rfl⟩)
          | (go_at_call 84; (with_reducible refine (ringUsedS_any _ _ _ _ H2.out (by omega) (by omega) (by omega) (by omega) _).mono ?_); rintro e w' ⟨rfl, hx⟩; obtain ⟨g, rfl⟩ := hx))
    try (
      refine wp_region_ext (by kernel_rfl) (by kernel_rfl) ?_
      repeat (go_big_quiet_step ((first | (go_at_call 123; first | (with_reducible exact Calls.ext_of_same (l01In_v H1.out _)) | (with_reducible exact Calls.ext_of2_same (l01In_v H1.out _))) | (go_at_call 124; first | (with_reducible exact Calls.ext_of_same (l20Size_v H2.out _)) | (with_reducible exact Calls.ext_of2_same (l20Size_v H2.out _))) | (go_at_call 123; first | (with_reducible exact Calls.ext_of_same (l01In_v H3.out _)) | (with_reducible exact Calls.ext_of2_same (l01In_v H3.out _))) | (go_at_call 123; first | (with_reducible exact Calls.ext_of_same (l01In_v H4.out _)) | (with_reducible exact Calls.ext_of2_same (l01In_v H4.out _))) | (go_at_call 84; first | (with_reducible exact Calls.ext_of (ringUsedS_any _ _ _ _ H2.out (by omega) (by omega) (by omega) (by omega) _)) | (with_reducible exact Calls.ext_of2 (ringUsedS_any _ _ _ _ H2.out (by omega) (by omega) (by omega) (by omega) _))))))
      refine wpQuiet_nil ?_
      intro g
      go_wp2_with (first
            | (go_at_call 123; (first | (with_reducible refine (l01In_v H1.out _).mono ?_) | (with_reducible refine (l01In_v H3.out _).mono ?_) | (with_reducible refine (l01In_v H4.out _).mono ?_)); rintro e w' ⟨rfl, rfl⟩)
            | (go_at_call 124; (first | (with_reducible refine (l20Size_v H2.out _).mono ?_)); rintro e w' ⟨rfl, rfl⟩)
            | (go_at_call 84; (with_reducible refine (ringUsedS_any _ _ _ _ H2.out (by omega) (by omega) (by omega) (by omega) _).mono ?_); rintro e w' ⟨rfl, hx⟩; obtain ⟨g, rfl⟩ := hx)))
    go_ret
    exact ⟨ret_bool (by simp [ringOkB, H1.out, H2.out, H3.out, H4.out, H5.out]), (by repeat (first | (with_reducible exact Ex.refl _) | (with_reducible apply Ex.plus_add) | (with_reducible apply Ex.plus_drew) | (with_reducible apply Ex.plus) | (with_reducible apply Ex.alloc) | (with_reducible apply Ex.drew)))⟩
  case true =>
  have H5 := hid q5
  go_enter Try.func83, Try.ntmps83
  go_wp2_with (first
        | (go_at_call 123; (first | (with_reducible refine (l01In_v H1.out _).mono ?_) | (with_reducible refine (l01In_v H3.out _).mono ?_) | (with_reducible refine (l01In_v H4.out _).mono ?_)); rintro e w' ⟨rfl, rfl⟩)
        | (go_at_call 124; (first | (with_reducible refine (l20Size_v H2.out _).mono ?_)); rintro e w' ⟨rfl, rfl⟩)
        | (go_at_call 84; (with_reducible refine (ringUsedS_any _ _ _ _ H2.out (by omega) (by omega) (by omega) (by omega) _).mono ?_); rintro e w' ⟨rfl, hx⟩; obtain ⟨g, rfl⟩ := hx))
  try (
    refine wp_region_ext (by kernel_rfl) (by kernel_rfl) ?_
    repeat (go_big_quiet_step ((first | (go_at_call 123; first | (with_reducible exact Calls.ext_of_same (l01In_v H1.out _)) | (with_reducible exact Calls.ext_of2_same (l01In_v H1.out _))) | (go_at_call 124; first | (with_reducible exact Calls.ext_of_same (l20Size_v H2.out _)) | (with_reducible exact Calls.ext_of2_same (l20Size_v H2.out _))) | (go_at_call 123; first | (with_reducible exact Calls.ext_of_same (l01In_v H3.out _)) | (with_reducible exact Calls.ext_of2_same (l01In_v H3.out _))) | (go_at_call 123; first | (with_reducible exact Calls.ext_of_same (l01In_v H4.out _)) | (with_reducible exact Calls.ext_of2_same (l01In_v H4.out _))) | (go_at_call 84; first | (with_reducible exact Calls.ext_of (ringUsedS_any _ _ _ _ H2.out (by omega) (by omega) (by omega) (by omega) _)) | (with_reducible exact Calls.ext_of2 (ringUsedS_any _ _ _ _ H2.out (by omega) (by omega) (by omega) (by omega) _))))))
    refine wpQuiet_nil ?_
    intro g
    go_wp2_with (first
          | (go_at_call 123; (first | (with_reducible refine (l01In_v H1.out _).mono ?_) | (with_reducible refine (l01In_v H3.out _).mono ?_) | (with_reducible refine (l01In_v H4.out _).mono ?_)); rintro e w' ⟨rfl, rfl⟩)
          | (go_at_call 124; (first | (with_reducible refine (l20Size_v H2.out _).mono ?_)); rintro e w' ⟨rfl, rfl⟩)
          | (go_at_call 84; (with_reducible refine (ringUsedS_any _ _ _ _ H2.out (by omega) (by omega) (by omega) (by omega) _).mono ?_); rintro e w' ⟨rfl, hx⟩; obtain ⟨g, rfl⟩ := hx)))
  go_ret
  exact ⟨ret_bool (by simp [ringOkB, H1.out, H2.out, H3.out, H4.out, H5.out]), (by repeat (first | (with_reducible exact Ex.refl _) | (with_reducible apply Ex.plus_add) | (with_reducible apply Ex.plus_drew) | (with_reducible apply Ex.plus) | (with_reducible apply Ex.alloc) | (with_reducible apply Ex.drew)))⟩

end Go.Proofs.Ytelkplponnfkpaa
