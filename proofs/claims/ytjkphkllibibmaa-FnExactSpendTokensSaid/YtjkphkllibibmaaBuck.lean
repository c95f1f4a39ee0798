/- Contracts of the functions over a token bucket. -/
import Derived.Test.YtjkphkllibibmaaRows
import Derived.Test.YtjkphkllibibmaaScal
namespace Go.Proofs.Ytjkphkllibibmaa
open Go.RowKit
set_option linter.unusedVariables false

theorem bucketOk_v {r b t : Int} {v : Bool} (h : bucketOkB r b t = v) (w : World) :
    Calls Try.prog 53 #[.agg #[.int .i64 r, .int .i64 b, .int .i64 t]] w fun e w' => e = .returned (.bool v) ∧ Ex w w' := h ▸ bucketOk_any r b t w

theorem bucketOkS_v {r b t : Int} {v : Bool} (h : bucketOkB r b t = v) (w : World) :
    Calls Try.prog 51 #[.agg #[.int .i64 r, .int .i64 b, .int .i64 t]] w fun e w' => e = .returned (.bool v) ∧ Ex w w' := h ▸ bucketOkS_any r b t w

theorem bok_bd {r b t : Int} (h : bucketOkB r b t = true) : 0 ≤ r ∧ r ≤ 10000 ∧ 0 ≤ b ∧ b ≤ 100000 ∧ 0 ≤ t ∧ t ≤ b := by
  simp only [bucketOkB, Bool.and_eq_true, inB_iff] at h
  obtain ⟨⟨h1, h2⟩, h3⟩ := h
  omega
theorem mul_bd {r k : Int} (h1 : 0 ≤ r) (h2 : r ≤ 10000) (h3 : 0 ≤ k) (h4 : k ≤ 1000000) : 0 ≤ r * k ∧ r * k ≤ 10000000000 := by
  refine ⟨Int.mul_nonneg h1 h3, ?_⟩
  have h5 : r * k ≤ 10000 * k := Int.mul_le_mul_of_nonneg_right h2 h3
  omega
def waitV (r b t n : Int) : Int := if !bucketOkB r b t || decide (n < 0) then -1 else if n ≤ t then 0 else if b < n ∨ r = 0 then -1 else (n - t + r - 1) / r

set_option maxHeartbeats 400000 in
theorem refill_f (r b t : Int) (k : Int) (h : bucketOkB r b t = false) (w : World) :
    Calls Try.prog 17 #[.agg #[.int .i64 r, .int .i64 b, .int .i64 t], .int .i64 k] w fun e w' => e = .returned (.agg #[.int .i64 r, .int .i64 b, .int .i64 t]) ∧ Ex w w' := by
  have H := hid h
  clear h
  go_enter Try.func17, Try.ntmps17
  go_wp2_with (first
        | (go_at_call 53; (with_reducible refine (bucketOk_v H.out _).mono ?_); rintro e w' ⟨rfl, hx⟩; obtain ⟨g, rfl⟩ := hx))
  refine bodyPost_ret (v := _) (by simp [results, Try.results17, go_sem] <;> rfl) rfl ⟨rfl, ?_⟩
  exact (by repeat (first | exact Ex.refl _ | apply Ex.plus | apply Ex.alloc | apply Ex.drew))

set_option maxHeartbeats 400000 in
theorem refill_n (r b t : Int) (k : Int) (h : bucketOkB r b t = true) (h2 : inB k 0 1000000 = false) (w : World) :
    Calls Try.prog 17 #[.agg #[.int .i64 r, .int .i64 b, .int .i64 t], .int .i64 k] w fun e w' => e = .returned (.agg #[.int .i64 r, .int .i64 b, .int .i64 t]) ∧ Ex w w' := by
  have H := hid h
  clear h
  have H2 := hid h2
  clear h2
  go_enter Try.func17, Try.ntmps17
  go_wp2_with (first
        | (go_at_call 53; (with_reducible refine (bucketOk_v H.out _).mono ?_); rintro e w' ⟨rfl, hx⟩; obtain ⟨g, rfl⟩ := hx)
        | (go_at_call 54; (with_reducible refine (between_v H2.out _).mono ?_); rintro e w' ⟨rfl, rfl⟩))
  refine bodyPost_ret (v := _) (by simp [results, Try.results17, go_sem] <;> rfl) rfl ⟨rfl, ?_⟩
  exact (by repeat (first | exact Ex.refl _ | apply Ex.plus | apply Ex.alloc | apply Ex.drew))

set_option maxHeartbeats 400000 in
theorem refill_t (r b t : Int) (k : Int) (h : bucketOkB r b t = true) (h2 : inB k 0 1000000 = true) (w : World) :
    Calls Try.prog 17 #[.agg #[.int .i64 r, .int .i64 b, .int .i64 t], .int .i64 k] w fun e w' => e = .returned (.agg #[.int .i64 r, .int .i64 b, .int .i64 (min (t + r * k) b)]) ∧ Ex w w' := by
  obtain ⟨b1, b2, b3, b4, b5, b6⟩ := bok_bd h
  obtain ⟨c1, c2⟩ := inB_iff.1 h2
  obtain ⟨c3, c4⟩ := mul_bd b1 b2 c1 c2
  rcases (by omega : t + r * k < b ∨ b = t + r * k ∨ b < t + r * k) with hc | rfl | hc
  case' inl => rw [show min (t + r * k) b = t + r * k from by omega]
  case' inr.inl => rw [show min (t + r * k) (t + r * k) = t + r * k from by omega]
  case' inr.inr => rw [show min (t + r * k) b = b from by omega]
  all_goals
    have H := hid h
    clear h
    have H2 := hid h2
    clear h2
    go_enter Try.func17, Try.ntmps17
    go_wp2_with (first
          | (go_at_call 53; (with_reducible refine (bucketOk_v H.out _).mono ?_); rintro e w' ⟨rfl, hx⟩; obtain ⟨g, rfl⟩ := hx)
          | (go_at_call 54; (with_reducible refine (between_v H2.out _).mono ?_); rintro e w' ⟨rfl, rfl⟩))
    refine bodyPost_ret (v := _) (by simp [results, Try.results17, go_sem] <;> rfl) rfl ⟨rfl, ?_⟩
    exact (by repeat (first | exact Ex.refl _ | apply Ex.plus | apply Ex.alloc | apply Ex.drew))

set_option maxHeartbeats 400000 in
theorem spend_f (r b t : Int) (n : Int) (h : bucketOkB r b t = false) (w : World) :
    Calls Try.prog 20 #[.agg #[.int .i64 r, .int .i64 b, .int .i64 t], .int .i64 n] w fun e w' => e = .returned (.tuple #[.agg #[.int .i64 r, .int .i64 b, .int .i64 t], .bool false]) ∧ Ex w w' := by
  have H := hid h
  clear h
  go_enter Try.func20, Try.ntmps20
  go_wp2_with (first
        | (go_at_call 53; (with_reducible refine (bucketOk_v H.out _).mono ?_); rintro e w' ⟨rfl, hx⟩; obtain ⟨g, rfl⟩ := hx))
  refine bodyPost_ret (v := _) (by simp [results, Try.results20, go_sem] <;> rfl) rfl ⟨rfl, ?_⟩
  exact (by repeat (first | exact Ex.refl _ | apply Ex.plus | apply Ex.alloc | apply Ex.drew))

set_option maxHeartbeats 400000 in
theorem spend_n (r b t : Int) (n : Int) (h : bucketOkB r b t = true) (h2 : inB n 0 t = false) (w : World) :
    Calls Try.prog 20 #[.agg #[.int .i64 r, .int .i64 b, .int .i64 t], .int .i64 n] w fun e w' => e = .returned (.tuple #[.agg #[.int .i64 r, .int .i64 b, .int .i64 t], .bool false]) ∧ Ex w w' := by
  have H := hid h
  clear h
  have H2 := hid h2
  clear h2
  go_enter Try.func20, Try.ntmps20
  go_wp2_with (first
        | (go_at_call 53; (with_reducible refine (bucketOk_v H.out _).mono ?_); rintro e w' ⟨rfl, hx⟩; obtain ⟨g, rfl⟩ := hx)
        | (go_at_call 54; (with_reducible refine (between_v H2.out _).mono ?_); rintro e w' ⟨rfl, rfl⟩))
  refine bodyPost_ret (v := _) (by simp [results, Try.results20, go_sem] <;> rfl) rfl ⟨rfl, ?_⟩
  exact (by repeat (first | exact Ex.refl _ | apply Ex.plus | apply Ex.alloc | apply Ex.drew))

set_option maxHeartbeats 400000 in
theorem spend_t (r b t : Int) (n : Int) (h : bucketOkB r b t = true) (h2 : inB n 0 t = true) (w : World) :
    Calls Try.prog 20 #[.agg #[.int .i64 r, .int .i64 b, .int .i64 t], .int .i64 n] w fun e w' => e = .returned (.tuple #[.agg #[.int .i64 r, .int .i64 b, .int .i64 (t - n)], .bool true]) ∧ Ex w w' := by
  obtain ⟨b1, b2, b3, b4, b5, b6⟩ := bok_bd h
  obtain ⟨c1, c2⟩ := inB_iff.1 h2
  have H := hid h
  clear h
  have H2 := hid h2
  clear h2
  go_enter Try.func20, Try.ntmps20
  go_wp2_with (first
        | (go_at_call 53; (with_reducible refine (bucketOk_v H.out _).mono ?_); rintro e w' ⟨rfl, hx⟩; obtain ⟨g, rfl⟩ := hx)
        | (go_at_call 54; (with_reducible refine (between_v H2.out _).mono ?_); rintro e w' ⟨rfl, rfl⟩))
  refine bodyPost_ret (v := _) (by simp [results, Try.results20, go_sem] <;> rfl) rfl ⟨rfl, ?_⟩
  exact (by repeat (first | exact Ex.refl _ | apply Ex.plus | apply Ex.alloc | apply Ex.drew))

set_option maxHeartbeats 400000 in
theorem refillS_f (r b t : Int) (k : Int) (h : bucketOkB r b t = false) (w : World) :
    Calls Try.prog 15 #[.agg #[.int .i64 r, .int .i64 b, .int .i64 t], .int .i64 k] w fun e w' => e = .returned (.agg #[.int .i64 r, .int .i64 b, .int .i64 t]) ∧ Ex w w' := by
  have H := hid h
  clear h
  go_enter Try.func15, Try.ntmps15
  go_wp2_with (first
        | (go_at_call 51; (with_reducible refine (bucketOkS_v H.out _).mono ?_); rintro e w' ⟨rfl, hx⟩; obtain ⟨g, rfl⟩ := hx))
  refine bodyPost_ret (v := _) (by simp [results, Try.results15, go_sem] <;> rfl) rfl ⟨rfl, ?_⟩
  exact (by repeat (first | exact Ex.refl _ | apply Ex.plus | apply Ex.alloc | apply Ex.drew))

set_option maxHeartbeats 400000 in
theorem refillS_n (r b t : Int) (k : Int) (h : bucketOkB r b t = true) (h2 : inB k 0 1000000 = false) (w : World) :
    Calls Try.prog 15 #[.agg #[.int .i64 r, .int .i64 b, .int .i64 t], .int .i64 k] w fun e w' => e = .returned (.agg #[.int .i64 r, .int .i64 b, .int .i64 t]) ∧ Ex w w' := by
  have H := hid h
  clear h
  have H2 := hid h2
  clear h2
  go_enter Try.func15, Try.ntmps15
  go_wp2_with (first
        | (go_at_call 51; (with_reducible refine (bucketOkS_v H.out _).mono ?_); rintro e w' ⟨rfl, hx⟩; obtain ⟨g, rfl⟩ := hx)
        | (go_at_call 52; (with_reducible refine (l01In_v H2.out _).mono ?_); rintro e w' ⟨rfl, rfl⟩))
  refine bodyPost_ret (v := _) (by simp [results, Try.results15, go_sem] <;> rfl) rfl ⟨rfl, ?_⟩
  exact (by repeat (first | exact Ex.refl _ | apply Ex.plus | apply Ex.alloc | apply Ex.drew))

set_option maxHeartbeats 400000 in
theorem refillS_t (r b t : Int) (k : Int) (h : bucketOkB r b t = true) (h2 : inB k 0 1000000 = true) (w : World) :
    Calls Try.prog 15 #[.agg #[.int .i64 r, .int .i64 b, .int .i64 t], .int .i64 k] w fun e w' => e = .returned (.agg #[.int .i64 r, .int .i64 b, .int .i64 (min (t + r * k) b)]) ∧ Ex w w' := by
  obtain ⟨b1, b2, b3, b4, b5, b6⟩ := bok_bd h
  obtain ⟨c1, c2⟩ := inB_iff.1 h2
  obtain ⟨c3, c4⟩ := mul_bd b1 b2 c1 c2
  rcases (by omega : t + r * k < b ∨ b = t + r * k ∨ b < t + r * k) with hc | rfl | hc
  case' inl => rw [show min (t + r * k) b = t + r * k from by omega]
  case' inr.inl => rw [show min (t + r * k) (t + r * k) = t + r * k from by omega]
  case' inr.inr => rw [show min (t + r * k) b = b from by omega]
  all_goals
    have H := hid h
    clear h
    have H2 := hid h2
    clear h2
    go_enter Try.func15, Try.ntmps15
    go_wp2_with (first
          | (go_at_call 51; (with_reducible refine (bucketOkS_v H.out _).mono ?_); rintro e w' ⟨rfl, hx⟩; obtain ⟨g, rfl⟩ := hx)
          | (go_at_call 52; (with_reducible refine (l01In_v H2.out _).mono ?_); rintro e w' ⟨rfl, rfl⟩))
    refine bodyPost_ret (v := _) (by simp [results, Try.results15, go_sem] <;> rfl) rfl ⟨rfl, ?_⟩
    exact (by repeat (first | exact Ex.refl _ | apply Ex.plus | apply Ex.alloc | apply Ex.drew))

set_option maxHeartbeats 400000 in
theorem spendS_f (r b t : Int) (n : Int) (h : bucketOkB r b t = false) (w : World) :
    Calls Try.prog 19 #[.agg #[.int .i64 r, .int .i64 b, .int .i64 t], .int .i64 n] w fun e w' => e = .returned (.tuple #[.agg #[.int .i64 r, .int .i64 b, .int .i64 t], .bool false]) ∧ Ex w w' := by
  have H := hid h
  clear h
  go_enter Try.func19, Try.ntmps19
  go_wp2_with (first
        | (go_at_call 51; (with_reducible refine (bucketOkS_v H.out _).mono ?_); rintro e w' ⟨rfl, hx⟩; obtain ⟨g, rfl⟩ := hx))
  refine bodyPost_ret (v := _) (by simp [results, Try.results19, go_sem] <;> rfl) rfl ⟨rfl, ?_⟩
  exact (by repeat (first | exact Ex.refl _ | apply Ex.plus | apply Ex.alloc | apply Ex.drew))

set_option maxHeartbeats 400000 in
theorem spendS_n (r b t : Int) (n : Int) (h : bucketOkB r b t = true) (h2 : inB n 0 t = false) (w : World) :
    Calls Try.prog 19 #[.agg #[.int .i64 r, .int .i64 b, .int .i64 t], .int .i64 n] w fun e w' => e = .returned (.tuple #[.agg #[.int .i64 r, .int .i64 b, .int .i64 t], .bool false]) ∧ Ex w w' := by
  have H := hid h
  clear h
  have H2 := hid h2
  clear h2
  go_enter Try.func19, Try.ntmps19
  go_wp2_with (first
        | (go_at_call 51; (with_reducible refine (bucketOkS_v H.out _).mono ?_); rintro e w' ⟨rfl, hx⟩; obtain ⟨g, rfl⟩ := hx)
        | (go_at_call 52; (with_reducible refine (l01In_v H2.out _).mono ?_); rintro e w' ⟨rfl, rfl⟩))
  refine bodyPost_ret (v := _) (by simp [results, Try.results19, go_sem] <;> rfl) rfl ⟨rfl, ?_⟩
  exact (by repeat (first | exact Ex.refl _ | apply Ex.plus | apply Ex.alloc | apply Ex.drew))

set_option maxHeartbeats 400000 in
theorem spendS_t (r b t : Int) (n : Int) (h : bucketOkB r b t = true) (h2 : inB n 0 t = true) (w : World) :
    Calls Try.prog 19 #[.agg #[.int .i64 r, .int .i64 b, .int .i64 t], .int .i64 n] w fun e w' => e = .returned (.tuple #[.agg #[.int .i64 r, .int .i64 b, .int .i64 (t - n)], .bool true]) ∧ Ex w w' := by
  obtain ⟨b1, b2, b3, b4, b5, b6⟩ := bok_bd h
  obtain ⟨c1, c2⟩ := inB_iff.1 h2
  have H := hid h
  clear h
  have H2 := hid h2
  clear h2
  go_enter Try.func19, Try.ntmps19
  go_wp2_with (first
        | (go_at_call 51; (with_reducible refine (bucketOkS_v H.out _).mono ?_); rintro e w' ⟨rfl, hx⟩; obtain ⟨g, rfl⟩ := hx)
        | (go_at_call 52; (with_reducible refine (l01In_v H2.out _).mono ?_); rintro e w' ⟨rfl, rfl⟩))
  refine bodyPost_ret (v := _) (by simp [results, Try.results19, go_sem] <;> rfl) rfl ⟨rfl, ?_⟩
  exact (by repeat (first | exact Ex.refl _ | apply Ex.plus | apply Ex.alloc | apply Ex.drew))

end Go.Proofs.Ytjkphkllibibmaa

