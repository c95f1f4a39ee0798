/- Contracts of the functions over a token bucket. -/
import Derived.Test.YtlpipllhbobfbaaRows
import Derived.Test.YtlpipllhbobfbaaScal
namespace Go.Proofs.Ytlpipllhbobfbaa
open Go.RowKit
set_option linter.unusedVariables false

theorem bucketOk_v {r b t : Int} {v : Bool} (h : bucketOkB r b t = v) (w : World) :
    Calls Try.prog 22 #[.agg #[.int .i64 r, .int .i64 b, .int .i64 t]] w fun e w' => e = .returned (.bool v) ∧ Ex w w' := h ▸ bucketOk_any r b t w

theorem bucketOkS_v {r b t : Int} {v : Bool} (h : bucketOkB r b t = v) (w : World) :
    Calls Try.prog 74 #[.agg #[.int .i64 r, .int .i64 b, .int .i64 t]] w fun e w' => e = .returned (.bool v) ∧ Ex w w' := h ▸ bucketOkS_any r b t w

theorem bok_bd {r b t : Int} (h : bucketOkB r b t = true) : 0 ≤ r ∧ r ≤ 10000 ∧ 0 ≤ b ∧ b ≤ 100000 ∧ 0 ≤ t ∧ t ≤ b := by
  simp only [bucketOkB, Bool.and_eq_true, inB_iff] at h
  obtain ⟨⟨h1, h2⟩, h3⟩ := h
  omega
theorem mul_bd {r k : Int} (h1 : 0 ≤ r) (h2 : r ≤ 10000) (h3 : 0 ≤ k) (h4 : k ≤ 1000000) : 0 ≤ r * k ∧ r * k ≤ 10000000000 := by
  refine ⟨Int.mul_nonneg h1 h3, ?_⟩
  have h5 : r * k ≤ 10000 * k := Int.mul_le_mul_of_nonneg_right h2 h3
  omega
def waitV (r b t n : Int) : Int := if !bucketOkB r b t || decide (n < 0) then -1 else if n ≤ t then 0 else if b < n ∨ r = 0 then -1 else (n - t + r - 1) / r

set_option maxHeartbeats 400000 in
theorem refill_f (r b t : Int) (k : Int) (h : bucketOkB r b t = false) (w : World) :
    Calls Try.prog 26 #[.agg #[.int .i64 r, .int .i64 b, .int .i64 t], .int .i64 k] w fun e w' => e = .returned (.agg #[.int .i64 r, .int .i64 b, .int .i64 t]) ∧ Ex w w' := by
  have H := hid h
  clear h
  go_enter Try.func26, Try.ntmps26
  go_wp2_with (first
        | (go_at_call 22; (with_reducible refine (bucketOk_v H.out _).mono ?_); rintro e w' ⟨rfl, hx⟩; obtain ⟨g, rfl⟩ := hx))
  refine bodyPost_ret (v := _) (by simp [results, Try.results26, go_sem] <;> rfl) rfl ⟨rfl, ?_⟩
  exact (by repeat (first | exact Ex.refl _ | apply Ex.plus | apply Ex.alloc | apply Ex.drew))

set_option maxHeartbeats 400000 in
theorem refill_n (r b t : Int) (k : Int) (h : bucketOkB r b t = true) (h2 : inB k 0 1000000 = false) (w : World) :
    Calls Try.prog 26 #[.agg #[.int .i64 r, .int .i64 b, .int .i64 t], .int .i64 k] w fun e w' => e = .returned (.agg #[.int .i64 r, .int .i64 b, .int .i64 t]) ∧ Ex w w' := by
  have H := hid h
  clear h
  have H2 := hid h2
  clear h2
  go_enter Try.func26, Try.ntmps26
  go_wp2_with (first
        | (go_at_call 22; (with_reducible refine (bucketOk_v H.out _).mono ?_); rintro e w' ⟨rfl, hx⟩; obtain ⟨g, rfl⟩ := hx)
        | (go_at_call 73; (with_reducible refine (between_v H2.out _).mono ?_); rintro e w' ⟨rfl, rfl⟩))
  refine bodyPost_ret (v := _) (by simp [results, Try.results26, go_sem] <;> rfl) rfl ⟨rfl, ?_⟩
  exact (by repeat (first | exact Ex.refl _ | apply Ex.plus | apply Ex.alloc | apply Ex.drew))

set_option maxHeartbeats 400000 in
theorem refill_t (r b t : Int) (k : Int) (h : bucketOkB r b t = true) (h2 : inB k 0 1000000 = true) (w : World) :
    Calls Try.prog 26 #[.agg #[.int .i64 r, .int .i64 b, .int .i64 t], .int .i64 k] w fun e w' => e = .returned (.agg #[.int .i64 r, .int .i64 b, .int .i64 (min (t + r * k) b)]) ∧ Ex w w' := by
  obtain ⟨b1, b2, b3, b4, b5, b6⟩ := bok_bd h
  obtain ⟨c1, c2⟩ := inB_iff.1 h2
  obtain ⟨c3, c4⟩ := mul_bd b1 b2 c1 c2
  rcases (by omega : t + r * k < b ∨ b = t + r * k ∨ b < t + r * k) with hc | rfl | hc
  case' inl => rw [show min (t + r * k) b = t + r * k from by omega]
  case' inr.inl => rw [show min (t + r * k) (t + r * k) = t + r * k from by omega]
  case' inr.inr => rw [show min (t + r * k) b = b from by omega]
  all_goals
    have H := hid h
    clear h
    have H2 := hid h2
    clear h2
    go_enter Try.func26, Try.ntmps26
    go_wp2_with (first
          | (go_at_call 22; (with_reducible refine (bucketOk_v H.out _).mono ?_); rintro e w' ⟨rfl, hx⟩; obtain ⟨g, rfl⟩ := hx)
          | (go_at_call 73; (with_reducible refine (between_v H2.out _).mono ?_); rintro e w' ⟨rfl, rfl⟩))
    refine bodyPost_ret (v := _) (by simp [results, Try.results26, go_sem] <;> rfl) rfl ⟨rfl, ?_⟩
    exact (by repeat (first | exact Ex.refl _ | apply Ex.plus | apply Ex.alloc | apply Ex.drew))

set_option maxHeartbeats 400000 in
theorem spend_f (r b t : Int) (n : Int) (h : bucketOkB r b t = false) (w : World) :
    Calls Try.prog 25 #[.agg #[.int .i64 r, .int .i64 b, .int .i64 t], .int .i64 n] w fun e w' => e = .returned (.tuple #[.agg #[.int .i64 r, .int .i64 b, .int .i64 t], .bool false]) ∧ Ex w w' := by
  have H := hid h
  clear h
  go_enter Try.func25, Try.ntmps25
  go_wp2_with (first
        | (go_at_call 22; (with_reducible refine (bucketOk_v H.out _).mono ?_); rintro e w' ⟨rfl, hx⟩; obtain ⟨g, rfl⟩ := hx))
  refine bodyPost_ret (v := _) (by simp [results, Try.results25, go_sem] <;> rfl) rfl ⟨rfl, ?_⟩
  exact (by repeat (first | exact Ex.refl _ | apply Ex.plus | apply Ex.alloc | apply Ex.drew))

set_option maxHeartbeats 400000 in
theorem spend_n (r b t : Int) (n : Int) (h : bucketOkB r b t = true) (h2 : inB n 0 t = false) (w : World) :
    Calls Try.prog 25 #[.agg #[.int .i64 r, .int .i64 b, .int .i64 t], .int .i64 n] w fun e w' => e = .returned (.tuple #[.agg #[.int .i64 r, .int .i64 b, .int .i64 t], .bool false]) ∧ Ex w w' := by
  have H := hid h
  clear h
  have H2 := hid h2
  clear h2
  go_enter Try.func25, Try.ntmps25
  go_wp2_with (first
        | (go_at_call 22; (with_reducible refine (bucketOk_v H.out _).mono ?_); rintro e w' ⟨rfl, hx⟩; obtain ⟨g, rfl⟩ := hx)
        | (go_at_call 73; (with_reducible refine (between_v H2.out _).mono ?_); rintro e w' ⟨rfl, rfl⟩))
  refine bodyPost_ret (v := _) (by simp [results, Try.results25, go_sem] <;> rfl) rfl ⟨rfl, ?_⟩
  exact (by repeat (first | exact Ex.refl _ | apply Ex.plus | apply Ex.alloc | apply Ex.drew))

set_option maxHeartbeats 400000 in
theorem spend_t (r b t : Int) (n : Int) (h : bucketOkB r b t = true) (h2 : inB n 0 t = true) (w : World) :
    Calls Try.prog 25 #[.agg #[.int .i64 r, .int .i64 b, .int .i64 t], .int .i64 n] w fun e w' => e = .returned (.tuple #[.agg #[.int .i64 r, .int .i64 b, .int .i64 (t - n)], .bool true]) ∧ Ex w w' := by
  obtain ⟨b1, b2, b3, b4, b5, b6⟩ := bok_bd h
  obtain ⟨c1, c2⟩ := inB_iff.1 h2
  have H := hid h
  clear h
  have H2 := hid h2
  clear h2
  go_enter Try.func25, Try.ntmps25
  go_wp2_with (first
        | (go_at_call 22; (with_reducible refine (bucketOk_v H.out _).mono ?_); rintro e w' ⟨rfl, hx⟩; obtain ⟨g, rfl⟩ := hx)
        | (go_at_call 73; (with_reducible refine (between_v H2.out _).mono ?_); rintro e w' ⟨rfl, rfl⟩))
  refine bodyPost_ret (v := _) (by simp [results, Try.results25, go_sem] <;> rfl) rfl ⟨rfl, ?_⟩
  exact (by repeat (first | exact Ex.refl _ | apply Ex.plus | apply Ex.alloc | apply Ex.drew))

set_option maxHeartbeats 400000 in
theorem wait_any (r b t : Int) (n : Int) (w : World) :
    Calls Try.prog 24 #[.agg #[.int .i64 r, .int .i64 b, .int .i64 t], .int .i64 n] w fun e w' => e = .returned (.int .i64 (waitV r b t n)) ∧ Ex w w' := by
  cases h : bucketOkB r b t
  case' true => obtain ⟨b1, b2, b3, b4, b5, b6⟩ := bok_bd h
  case' true => have q1 : n < 0 ∨ 0 ≤ n ∧ n ≤ t ∨ t < n ∧ b < n ∧ 0 ≤ n ∨ t < n ∧ n ≤ b ∧ 0 ≤ n := by omega
  case' true => rcases q1 with q1 | ⟨q1, q2⟩ | ⟨q1, q2, q3⟩ | ⟨q1, q2, q3⟩
  case' true.inr.inr.inr => have q5 : decide (b < n) = false := by simpa using q2
  case' true.inr.inr.inr => cases q4 : (r == 0)
  case' true.inr.inr.inr.false => have q6 : 0 < r := by have := beq_eq_false_iff_ne.1 q4; omega
  case' true.inr.inr.inr.true => have q7 : r = 0 := by simpa using q4
  case' true.inr.inr.inr.true => have Q7 := hid q7; clear q7
  all_goals
    have H := hid h
    clear h
    go_enter Try.func24, Try.ntmps24
    go_wp2_with (first
          | (go_at_call 22; (with_reducible refine (bucketOk_v H.out _).mono ?_); rintro e w' ⟨rfl, hx⟩; obtain ⟨g, rfl⟩ := hx))
    go_ret
    exact ⟨ret_int (by first | (simp [waitV, H.out]; done) | (simp [waitV, H.out]; omega) | (have q8 := Q7.out; simp [waitV, H.out]; omega) | (have q8 := Q7.out; subst q8; simp [waitV, H.out]; omega)), (by repeat (first | exact Ex.refl _ | apply Ex.plus | apply Ex.alloc | apply Ex.drew))⟩

set_option maxHeartbeats 400000 in
theorem refillS_f (r b t : Int) (k : Int) (h : bucketOkB r b t = false) (w : World) :
    Calls Try.prog 77 #[.agg #[.int .i64 r, .int .i64 b, .int .i64 t], .int .i64 k] w fun e w' => e = .returned (.agg #[.int .i64 r, .int .i64 b, .int .i64 t]) ∧ Ex w w' := by
  have H := hid h
  clear h
  go_enter Try.func77, Try.ntmps77
  go_wp2_with (first
        | (go_at_call 74; (with_reducible refine (bucketOkS_v H.out _).mono ?_); rintro e w' ⟨rfl, hx⟩; obtain ⟨g, rfl⟩ := hx))
  refine bodyPost_ret (v := _) (by simp [results, Try.results77, go_sem] <;> rfl) rfl ⟨rfl, ?_⟩
  exact (by repeat (first | exact Ex.refl _ | apply Ex.plus | apply Ex.alloc | apply Ex.drew))

set_option maxHeartbeats 400000 in
theorem refillS_n (r b t : Int) (k : Int) (h : bucketOkB r b t = true) (h2 : inB k 0 1000000 = false) (w : World) :
    Calls Try.prog 77 #[.agg #[.int .i64 r, .int .i64 b, .int .i64 t], .int .i64 k] w fun e w' => e = .returned (.agg #[.int .i64 r, .int .i64 b, .int .i64 t]) ∧ Ex w w' := by
  have H := hid h
  clear h
  have H2 := hid h2
  clear h2
  go_enter Try.func77, Try.ntmps77
  go_wp2_with (first
        | (go_at_call 74; (with_reducible refine (bucketOkS_v H.out _).mono ?_); rintro e w' ⟨rfl, hx⟩; obtain ⟨g, rfl⟩ := hx)
        | (go_at_call 75; (with_reducible refine (l01In_v H2.out _).mono ?_); rintro e w' ⟨rfl, rfl⟩))
  refine bodyPost_ret (v := _) (by simp [results, Try.results77, go_sem] <;> rfl) rfl ⟨rfl, ?_⟩
  exact (by repeat (first | exact Ex.refl _ | apply Ex.plus | apply Ex.alloc | apply Ex.drew))

set_option maxHeartbeats 400000 in
theorem refillS_t (r b t : Int) (k : Int) (h : bucketOkB r b t = true) (h2 : inB k 0 1000000 = true) (w : World) :
    Calls Try.prog 77 #[.agg #[.int .i64 r, .int .i64 b, .int .i64 t], .int .i64 k] w fun e w' => e = .returned (.agg #[.int .i64 r, .int .i64 b, .int .i64 (min (t + r * k) b)]) ∧ Ex w w' := by
  obtain ⟨b1, b2, b3, b4, b5, b6⟩ := bok_bd h
  obtain ⟨c1, c2⟩ := inB_iff.1 h2
  obtain ⟨c3, c4⟩ := mul_bd b1 b2 c1 c2
  rcases (by omega : t + r * k < b ∨ b = t + r * k ∨ b < t + r * k) with hc | rfl | hc
  case' inl => rw [show min (t + r * k) b = t + r * k from by omega]
  case' inr.inl => rw [show min (t + r * k) (t + r * k) = t + r * k from by omega]
  case' inr.inr => rw [show min (t + r * k) b = b from by omega]
  all_goals
    have H := hid h
    clear h
    have H2 := hid h2
    clear h2
    go_enter Try.func77, Try.ntmps77
    go_wp2_with (first
          | (go_at_call 74; (with_reducible refine (bucketOkS_v H.out _).mono ?_); rintro e w' ⟨rfl, hx⟩; obtain ⟨g, rfl⟩ := hx)
          | (go_at_call 75; (with_reducible refine (l01In_v H2.out _).mono ?_); rintro e w' ⟨rfl, rfl⟩))
    refine bodyPost_ret (v := _) (by simp [results, Try.results77, go_sem] <;> rfl) rfl ⟨rfl, ?_⟩
    exact (by repeat (first | exact Ex.refl _ | apply Ex.plus | apply Ex.alloc | apply Ex.drew))

set_option maxHeartbeats 400000 in
theorem spendS_f (r b t : Int) (n : Int) (h : bucketOkB r b t = false) (w : World) :
    Calls Try.prog 76 #[.agg #[.int .i64 r, .int .i64 b, .int .i64 t], .int .i64 n] w fun e w' => e = .returned (.tuple #[.agg #[.int .i64 r, .int .i64 b, .int .i64 t], .bool false]) ∧ Ex w w' := by
  have H := hid h
  clear h
  go_enter Try.func76, Try.ntmps76
  go_wp2_with (first
        | (go_at_call 74; (with_reducible refine (bucketOkS_v H.out _).mono ?_); rintro e w' ⟨rfl, hx⟩; obtain ⟨g, rfl⟩ := hx))
  refine bodyPost_ret (v := _) (by simp [results, Try.results76, go_sem] <;> rfl) rfl ⟨rfl, ?_⟩
  exact (by repeat (first | exact Ex.refl _ | apply Ex.plus | apply Ex.alloc | apply Ex.drew))

set_option maxHeartbeats 400000 in
theorem spendS_n (r b t : Int) (n : Int) (h : bucketOkB r b t = true) (h2 : inB n 0 t = false) (w : World) :
    Calls Try.prog 76 #[.agg #[.int .i64 r, .int .i64 b, .int .i64 t], .int .i64 n] w fun e w' => e = .returned (.tuple #[.agg #[.int .i64 r, .int .i64 b, .int .i64 t], .bool false]) ∧ Ex w w' := by
  have H := hid h
  clear h
  have H2 := hid h2
  clear h2
  go_enter Try.func76, Try.ntmps76
  go_wp2_with (first
        | (go_at_call 74; (with_reducible refine (bucketOkS_v H.out _).mono ?_); rintro e w' ⟨rfl, hx⟩; obtain ⟨g, rfl⟩ := hx)
        | (go_at_call 75; (with_reducible refine (l01In_v H2.out _).mono ?_); rintro e w' ⟨rfl, rfl⟩))
  refine bodyPost_ret (v := _) (by simp [results, Try.results76, go_sem] <;> rfl) rfl ⟨rfl, ?_⟩
  exact (by repeat (first | exact Ex.refl _ | apply Ex.plus | apply Ex.alloc | apply Ex.drew))

set_option maxHeartbeats 400000 in
theorem spendS_t (r b t : Int) (n : Int) (h : bucketOkB r b t = true) (h2 : inB n 0 t = true) (w : World) :
    Calls Try.prog 76 #[.agg #[.int .i64 r, .int .i64 b, .int .i64 t], .int .i64 n] w fun e w' => e = .returned (.tuple #[.agg #[.int .i64 r, .int .i64 b, .int .i64 (t - n)], .bool true]) ∧ Ex w w' := by
  obtain ⟨b1, b2, b3, b4, b5, b6⟩ := bok_bd h
  obtain ⟨c1, c2⟩ := inB_iff.1 h2
  have H := hid h
  clear h
  have H2 := hid h2
  clear h2
  go_enter Try.func76, Try.ntmps76
  go_wp2_with (first
        | (go_at_call 74; (with_reducible refine (bucketOkS_v H.out _).mono ?_); rintro e w' ⟨rfl, hx⟩; obtain ⟨g, rfl⟩ := hx)
        | (go_at_call 75; (with_reducible refine (l01In_v H2.out _).mono ?_); rintro e w' ⟨rfl, rfl⟩))
  refine bodyPost_ret (v := _) (by simp [results, Try.results76, go_sem] <;> rfl) rfl ⟨rfl, ?_⟩
  exact (by repeat (first | exact Ex.refl _ | apply Ex.plus | apply Ex.alloc | apply Ex.drew))

set_option maxHeartbeats 400000 in
theorem waitS_any (r b t : Int) (n : Int) (w : World) :
    Calls Try.prog 27 #[.agg #[.int .i64 r, .int .i64 b, .int .i64 t], .int .i64 n] w fun e w' => e = .returned (.int .i64 (waitV r b t n)) ∧ Ex w w' := by
  cases h : bucketOkB r b t
  case' true => obtain ⟨b1, b2, b3, b4, b5, b6⟩ := bok_bd h
  case' true => have q1 : n < 0 ∨ 0 ≤ n ∧ n ≤ t ∨ t < n ∧ b < n ∧ 0 ≤ n ∨ t < n ∧ n ≤ b ∧ 0 ≤ n := by omega
  case' true => rcases q1 with q1 | ⟨q1, q2⟩ | ⟨q1, q2, q3⟩ | ⟨q1, q2, q3⟩
  case' true.inr.inr.inr => have q5 : decide (b < n) = false := by simpa using q2
  case' true.inr.inr.inr => cases q4 : (r == 0)
  case' true.inr.inr.inr.false => have q6 : 0 < r := by have := beq_eq_false_iff_ne.1 q4; omega
  case' true.inr.inr.inr.true => have q7 : r = 0 := by simpa using q4
  case' true.inr.inr.inr.true => have Q7 := hid q7; clear q7
  all_goals
    have H := hid h
    clear h
    go_enter Try.func27, Try.ntmps27
    go_wp2_with (first
          | (go_at_call 74; (with_reducible refine (bucketOkS_v H.out _).mono ?_); rintro e w' ⟨rfl, hx⟩; obtain ⟨g, rfl⟩ := hx))
    go_ret
    exact ⟨ret_int (by first | (simp [waitV, H.out]; done) | (simp [waitV, H.out]; omega) | (have q8 := Q7.out; simp [waitV, H.out]; omega) | (have q8 := Q7.out; subst q8; simp [waitV, H.out]; omega)), (by repeat (first | exact Ex.refl _ | apply Ex.plus | apply Ex.alloc | apply Ex.drew))⟩

end Go.Proofs.Ytlpipllhbobfbaa

