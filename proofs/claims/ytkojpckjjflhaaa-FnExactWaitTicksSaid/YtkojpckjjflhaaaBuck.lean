/- Contracts of the functions over a token bucket. -/
import Derived.Test.YtkojpckjjflhaaaRows
import Derived.Test.YtkojpckjjflhaaaScal
namespace Go.Proofs.Ytkojpckjjflhaaa
open Go.RowKit
set_option linter.unusedVariables false

theorem bucketOk_v {r b t : Int} {v : Bool} (h : bucketOkB r b t = v) (w : World) :
    Calls Try.prog 15 #[.agg #[.int .i64 r, .int .i64 b, .int .i64 t]] w fun e w' => e = .returned (.bool v) ∧ Ex w w' := h ▸ bucketOk_any r b t w

theorem bucketOkS_v {r b t : Int} {v : Bool} (h : bucketOkB r b t = v) (w : World) :
    Calls Try.prog 13 #[.agg #[.int .i64 r, .int .i64 b, .int .i64 t]] w fun e w' => e = .returned (.bool v) ∧ Ex w w' := h ▸ bucketOkS_any r b t w

theorem bok_bd {r b t : Int} (h : bucketOkB r b t = true) : 0 ≤ r ∧ r ≤ 10000 ∧ 0 ≤ b ∧ b ≤ 100000 ∧ 0 ≤ t ∧ t ≤ b := by
  simp only [bucketOkB, Bool.and_eq_true, inB_iff] at h
  obtain ⟨⟨h1, h2⟩, h3⟩ := h
  omega
theorem mul_bd {r k : Int} (h1 : 0 ≤ r) (h2 : r ≤ 10000) (h3 : 0 ≤ k) (h4 : k ≤ 1000000) : 0 ≤ r * k ∧ r * k ≤ 10000000000 := by
  refine ⟨Int.mul_nonneg h1 h3, ?_⟩
  have h5 : r * k ≤ 10000 * k := Int.mul_le_mul_of_nonneg_right h2 h3
  omega
def waitV (r b t n : Int) : Int := if !bucketOkB r b t || decide (n < 0) then -1 else if n ≤ t then 0 else if b < n ∨ r = 0 then -1 else (n - t + r - 1) / r

set_option maxHeartbeats 400000 in
theorem wait_any (r b t : Int) (n : Int) (w : World) :
    Calls Try.prog 35 #[.agg #[.int .i64 r, .int .i64 b, .int .i64 t], .int .i64 n] w fun e w' => e = .returned (.int .i64 (waitV r b t n)) ∧ Ex w w' := by
  cases h : bucketOkB r b t
  case' true => obtain ⟨b1, b2, b3, b4, b5, b6⟩ := bok_bd h
  case' true => have q1 : n < 0 ∨ 0 ≤ n ∧ n ≤ t ∨ t < n ∧ b < n ∧ 0 ≤ n ∨ t < n ∧ n ≤ b ∧ 0 ≤ n := by omega
  case' true => rcases q1 with q1 | ⟨q1, q2⟩ | ⟨q1, q2, q3⟩ | ⟨q1, q2, q3⟩
  case' true.inr.inr.inr => have q5 : decide (b < n) = false := by simpa using q2
  case' true.inr.inr.inr => cases q4 : (r == 0)
  case' true.inr.inr.inr.false => have q6 : 0 < r := by have := beq_eq_false_iff_ne.1 q4; omega
  case' true.inr.inr.inr.true => have q7 : r = 0 := by simpa using q4
  case' true.inr.inr.inr.true => have Q7 := hid q7; clear q7
  all_goals
    have H := hid h
    clear h
    go_enter Try.func35, Try.ntmps35
    go_wp2_with (first
          | (go_at_call 15; (with_reducible refine (bucketOk_v H.out _).mono ?_); rintro e w' ⟨rfl, hx⟩; obtain ⟨g, rfl⟩ := hx))
    go_ret
    exact ⟨ret_int (by first | (simp [waitV, H.out]; done) | (simp [waitV, H.out]; omega) | (have q8 := Q7.out; simp [waitV, H.out]; omega) | (have q8 := Q7.out; subst q8; simp [waitV, H.out]; omega)), (by repeat (first | exact Ex.refl _ | apply Ex.plus | apply Ex.alloc | apply Ex.drew))⟩

set_option maxHeartbeats 400000 in
theorem waitS_any (r b t : Int) (n : Int) (w : World) :
    Calls Try.prog 34 #[.agg #[.int .i64 r, .int .i64 b, .int .i64 t], .int .i64 n] w fun e w' => e = .returned (.int .i64 (waitV r b t n)) ∧ Ex w w' := by
  cases h : bucketOkB r b t
  case' true => obtain ⟨b1, b2, b3, b4, b5, b6⟩ := bok_bd h
  case' true => have q1 : n < 0 ∨ 0 ≤ n ∧ n ≤ t ∨ t < n ∧ b < n ∧ 0 ≤ n ∨ t < n ∧ n ≤ b ∧ 0 ≤ n := by omega
  case' true => rcases q1 with q1 | ⟨q1, q2⟩ | ⟨q1, q2, q3⟩ | ⟨q1, q2, q3⟩
  case' true.inr.inr.inr => have q5 : decide (b < n) = false := by simpa using q2
  case' true.inr.inr.inr => cases q4 : (r == 0)
  case' true.inr.inr.inr.false => have q6 : 0 < r := by have := beq_eq_false_iff_ne.1 q4; omega
  case' true.inr.inr.inr.true => have q7 : r = 0 := by simpa using q4
  case' true.inr.inr.inr.true => have Q7 := hid q7; clear q7
  all_goals
    have H := hid h
    clear h
    go_enter Try.func34, Try.ntmps34
    go_wp2_with (first
          | (go_at_call 13; (with_reducible refine (bucketOkS_v H.out _).mono ?_); rintro e w' ⟨rfl, hx⟩; obtain ⟨g, rfl⟩ := hx))
    go_ret
    exact ⟨ret_int (by first | (simp [waitV, H.out]; done) | (simp [waitV, H.out]; omega) | (have q8 := Q7.out; simp [waitV, H.out]; omega) | (have q8 := Q7.out; subst q8; simp [waitV, H.out]; omega)), (by repeat (first | exact Ex.refl _ | apply Ex.plus | apply Ex.alloc | apply Ex.drew))⟩

end Go.Proofs.Ytkojpckjjflhaaa

