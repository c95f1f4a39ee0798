/- Contracts of the functions over an interrupt vector. -/
import Derived.Test.YtlpipllhbobfbaaRows
import Derived.Test.YtlpipllhbobfbaaVec
namespace Go.Proofs.Ytlpipllhbobfbaa
open Go.RowKit
set_option linter.unusedVariables false

theorem vectorOk_v {mc mt c t : Int} {m r : Bool} {v : Bool} (h : vectorOkB mc mt c t m r = v) (w : World) :
    Calls Try.prog 61 #[.agg #[.int .i64 mc, .int .i64 mt, .int .i64 c, .int .i64 t, .bool m, .bool r]] w fun e w' => e = .returned (.bool v) ∧ Ex w w' := h ▸ vectorOk_any mc mt c t m r w

theorem vectorOkS_v {mc mt c t : Int} {m r : Bool} {v : Bool} (h : vectorOkB mc mt c t m r = v) (w : World) :
    Calls Try.prog 67 #[.agg #[.int .i64 mc, .int .i64 mt, .int .i64 c, .int .i64 t, .bool m, .bool r]] w fun e w' => e = .returned (.bool v) ∧ Ex w w' := h ▸ vectorOkS_any mc mt c t m r w

theorem due_v {mc mt c t : Int} {m r : Bool} {v : Bool} (h : dueB mc mt c t = v) (w : World) :
    Calls Try.prog 94 #[.agg #[.int .i64 mc, .int .i64 mt, .int .i64 c, .int .i64 t, .bool m, .bool r]] w fun e w' => e = .returned (.bool v) ∧ Ex w w' := h ▸ due_any mc mt c t m r w

theorem l28Due_v {mc mt c t : Int} {m r : Bool} {v : Bool} (h : dueB mc mt c t = v) (w : World) :
    Calls Try.prog 105 #[.agg #[.int .i64 mc, .int .i64 mt, .int .i64 c, .int .i64 t, .bool m, .bool r]] w fun e w' => e = .returned (.bool v) ∧ Ex w w' := h ▸ l28Due_any mc mt c t m r w

theorem vok_bd {mc mt c t : Int} {m r : Bool} (h : vectorOkB mc mt c t m r = true) : 1 ≤ mc ∧ mc ≤ 64 ∧ 0 ≤ mt ∧ mt ≤ 64 ∧ 0 ≤ c ∧ c ≤ 1000000 ∧ 0 ≤ t ∧ t ≤ 1000000 := by
  simp only [vectorOkB, Bool.and_eq_true, inB_iff] at h
  obtain ⟨⟨⟨⟨⟨h1, h2⟩, h3⟩, h4⟩, _⟩, _⟩ := h
  omega

def ticksV (mc mt c t : Int) (m r : Bool) : Int := if !vectorOkB mc mt c t m r || m || c == 0 then -1 else if r then 0 else mt - t

set_option maxHeartbeats 400000 in
theorem checked_any (mc mt c t : Int) (m r : Bool) (w : World) :
    Calls Try.prog 69 #[.agg #[.int .i64 mc, .int .i64 mt, .int .i64 c, .int .i64 t, .bool m, .bool r]] w fun e w' => e = .returned (.agg #[.int .i64 (mc), .int .i64 (mt), .int .i64 (c), .int .i64 (t), .bool (m), .bool (r || (dueB mc mt c t && !m))]) ∧ Ex w w' := by
  cases hd : dueB mc mt c t <;> cases m <;> cases r
  all_goals
    have HD := hid hd
    clear hd
    go_enter Try.func69, Try.ntmps69
    go_wp2_with (first
          | (go_at_call 94; (with_reducible refine (due_v HD.out _).mono ?_); rintro e w' ⟨rfl, hx⟩; obtain ⟨g, rfl⟩ := hx))
    try (
      refine wp_region_ext (by kernel_rfl) (by kernel_rfl) ?_
      repeat (go_big_quiet_step ((first | (go_at_call 94; exact Calls.ext_of (due_v HD.out _)))))
      refine wpQuiet_nil ?_
      intro g
      go_wp2_with (first
            | (go_at_call 94; (with_reducible refine (due_v HD.out _).mono ?_); rintro e w' ⟨rfl, hx⟩; obtain ⟨g, rfl⟩ := hx)))
    refine bodyPost_ret (v := _) (by simp [results, Try.results69, go_sem] <;> rfl) rfl ⟨by simp, ?_⟩
    exact (by repeat (first | exact Ex.refl _ | apply Ex.plus | apply Ex.alloc | apply Ex.drew))

set_option maxHeartbeats 400000 in
theorem l28Check_any (mc mt c t : Int) (m r : Bool) (w : World) :
    Calls Try.prog 68 #[.agg #[.int .i64 mc, .int .i64 mt, .int .i64 c, .int .i64 t, .bool m, .bool r]] w fun e w' => e = .returned (.agg #[.int .i64 (mc), .int .i64 (mt), .int .i64 (c), .int .i64 (t), .bool (m), .bool (r || (dueB mc mt c t && !m))]) ∧ Ex w w' := by
  cases hd : dueB mc mt c t <;> cases m <;> cases r
  all_goals
    have HD := hid hd
    clear hd
    go_enter Try.func68, Try.ntmps68
    go_wp2_with (first
          | (go_at_call 105; (with_reducible refine (l28Due_v HD.out _).mono ?_); rintro e w' ⟨rfl, hx⟩; obtain ⟨g, rfl⟩ := hx))
    try (
      refine wp_region_ext (by kernel_rfl) (by kernel_rfl) ?_
      repeat (go_big_quiet_step ((first | (go_at_call 105; exact Calls.ext_of (l28Due_v HD.out _)))))
      refine wpQuiet_nil ?_
      intro g
      go_wp2_with (first
            | (go_at_call 105; (with_reducible refine (l28Due_v HD.out _).mono ?_); rintro e w' ⟨rfl, hx⟩; obtain ⟨g, rfl⟩ := hx)))
    refine bodyPost_ret (v := _) (by simp [results, Try.results68, go_sem] <;> rfl) rfl ⟨by simp, ?_⟩
    exact (by repeat (first | exact Ex.refl _ | apply Ex.plus | apply Ex.alloc | apply Ex.drew))

set_option maxHeartbeats 400000 in
theorem addEvent_f (mc mt c t : Int) (m r : Bool) (h : vectorOkB mc mt c t m r = false) (w : World) :
    Calls Try.prog 57 #[.agg #[.int .i64 mc, .int .i64 mt, .int .i64 c, .int .i64 t, .bool m, .bool r]] w fun e w' => e = .returned (.agg #[.int .i64 mc, .int .i64 mt, .int .i64 c, .int .i64 t, .bool m, .bool r]) ∧ Ex w w' := by
  have H := hid h
  clear h
  go_enter Try.func57, Try.ntmps57
  go_wp2_with (first
        | (go_at_call 61; (with_reducible refine (vectorOk_v (H.out) _).mono ?_); rintro e w' ⟨rfl, hx⟩; obtain ⟨g, rfl⟩ := hx))
  refine bodyPost_ret (v := _) (by simp [results, Try.results57, go_sem] <;> rfl) rfl ⟨rfl, ?_⟩
  exact (by repeat (first | exact Ex.refl _ | apply Ex.plus | apply Ex.alloc | apply Ex.drew))

set_option maxHeartbeats 400000 in
theorem addEvent_t (mc mt c t : Int) (m r : Bool) (h : vectorOkB mc mt c t m r = true) (w : World) :
    Calls Try.prog 57 #[.agg #[.int .i64 mc, .int .i64 mt, .int .i64 c, .int .i64 t, .bool m, .bool r]] w fun e w' => e = .returned (.agg #[.int .i64 (mc), .int .i64 (mt), .int .i64 (min (c + 1) 1000000), .int .i64 (t), .bool (m), .bool (r || (dueB mc mt (min (c + 1) 1000000) t && !m))]) ∧ Ex w w' := by
  obtain ⟨b1, b2, b3, b4, b5, b6, b7, b8⟩ := vok_bd h
  rcases (by omega : c + 1 < 1000000 ∨ c = 999999 ∨ 1000000 < c + 1) with hc | rfl | hc
  case' inl => rw [show min (c + 1) 1000000 = c + 1 from by omega]
  case' inr.inl => rw [show min (999999 + 1) 1000000 = (1000000 : Int) from by omega]
  case' inr.inr => rw [show min (c + 1) 1000000 = 1000000 from by omega]
  all_goals
    have H := hid h
    clear h
    go_enter Try.func57, Try.ntmps57
    go_wp2_with (first
          | (go_at_call 61; (with_reducible refine (vectorOk_v (H.out) _).mono ?_); rintro e w' ⟨rfl, hx⟩; obtain ⟨g, rfl⟩ := hx)
          | (go_at_call 69; (with_reducible refine (checked_any _ _ _ _ _ _ _).mono ?_); rintro e w' ⟨rfl, hx⟩; obtain ⟨g, rfl⟩ := hx))
    refine bodyPost_ret (v := _) (by simp [results, Try.results57, go_sem] <;> rfl) rfl ⟨rfl, ?_⟩
    exact (by repeat (first | exact Ex.refl _ | apply Ex.plus | apply Ex.alloc | apply Ex.drew))

set_option maxHeartbeats 400000 in
theorem tickVector_f (mc mt c t : Int) (m r : Bool) (h : vectorOkB mc mt c t m r = false) (w : World) :
    Calls Try.prog 17 #[.agg #[.int .i64 mc, .int .i64 mt, .int .i64 c, .int .i64 t, .bool m, .bool r]] w fun e w' => e = .returned (.agg #[.int .i64 mc, .int .i64 mt, .int .i64 c, .int .i64 t, .bool m, .bool r]) ∧ Ex w w' := by
  have H := hid h
  clear h
  go_enter Try.func17, Try.ntmps17
  go_wp2_with (first
        | (go_at_call 61; (with_reducible refine (vectorOk_v (H.out) _).mono ?_); rintro e w' ⟨rfl, hx⟩; obtain ⟨g, rfl⟩ := hx))
  refine bodyPost_ret (v := _) (by simp [results, Try.results17, go_sem] <;> rfl) rfl ⟨rfl, ?_⟩
  exact (by repeat (first | exact Ex.refl _ | apply Ex.plus | apply Ex.alloc | apply Ex.drew))

set_option maxHeartbeats 400000 in
theorem tickVector_t (mc mt c t : Int) (m r : Bool) (h : vectorOkB mc mt c t m r = true) (hz : 0 < c) (w : World) :
    Calls Try.prog 17 #[.agg #[.int .i64 mc, .int .i64 mt, .int .i64 c, .int .i64 t, .bool m, .bool r]] w fun e w' => e = .returned (.agg #[.int .i64 (mc), .int .i64 (mt), .int .i64 (c), .int .i64 (min (t + 1) 1000000), .bool (m), .bool (r || (dueB mc mt c (min (t + 1) 1000000) && !m))]) ∧ Ex w w' := by
  obtain ⟨b1, b2, b3, b4, b5, b6, b7, b8⟩ := vok_bd h
  rcases (by omega : t + 1 < 1000000 ∨ t = 999999 ∨ 1000000 < t + 1) with hc | rfl | hc
  case' inl => rw [show min (t + 1) 1000000 = t + 1 from by omega]
  case' inr.inl => rw [show min (999999 + 1) 1000000 = (1000000 : Int) from by omega]
  case' inr.inr => rw [show min (t + 1) 1000000 = 1000000 from by omega]
  all_goals
    have H := hid h
    clear h
    go_enter Try.func17, Try.ntmps17
    go_wp2_with (first
          | (go_at_call 61; (with_reducible refine (vectorOk_v (H.out) _).mono ?_); rintro e w' ⟨rfl, hx⟩; obtain ⟨g, rfl⟩ := hx)
          | (go_at_call 69; (with_reducible refine (checked_any _ _ _ _ _ _ _).mono ?_); rintro e w' ⟨rfl, hx⟩; obtain ⟨g, rfl⟩ := hx))
    refine bodyPost_ret (v := _) (by simp [results, Try.results17, go_sem] <;> rfl) rfl ⟨rfl, ?_⟩
    exact (by repeat (first | exact Ex.refl _ | apply Ex.plus | apply Ex.alloc | apply Ex.drew))
set_option maxHeartbeats 400000 in
theorem tickVector_z (mc mt c t : Int) (m r : Bool) (h : vectorOkB mc mt c t m r = true) (hz : c ≤ 0) (w : World) :
    Calls Try.prog 17 #[.agg #[.int .i64 mc, .int .i64 mt, .int .i64 c, .int .i64 t, .bool m, .bool r]] w fun e w' => e = .returned (.agg #[.int .i64 (mc), .int .i64 (mt), .int .i64 (c), .int .i64 (t), .bool (m), .bool (r || (dueB mc mt c t && !m))]) ∧ Ex w w' := by
  obtain ⟨b1, b2, b3, b4, b5, b6, b7, b8⟩ := vok_bd h
  all_goals
    have H := hid h
    clear h
    go_enter Try.func17, Try.ntmps17
    go_wp2_with (first
          | (go_at_call 61; (with_reducible refine (vectorOk_v (H.out) _).mono ?_); rintro e w' ⟨rfl, hx⟩; obtain ⟨g, rfl⟩ := hx)
          | (go_at_call 69; (with_reducible refine (checked_any _ _ _ _ _ _ _).mono ?_); rintro e w' ⟨rfl, hx⟩; obtain ⟨g, rfl⟩ := hx))
    refine bodyPost_ret (v := _) (by simp [results, Try.results17, go_sem] <;> rfl) rfl ⟨rfl, ?_⟩
    exact (by repeat (first | exact Ex.refl _ | apply Ex.plus | apply Ex.alloc | apply Ex.drew))

set_option maxHeartbeats 400000 in
theorem unmask_f (mc mt c t : Int) (m r : Bool) (h : vectorOkB mc mt c t m r = false) (w : World) :
    Calls Try.prog 58 #[.agg #[.int .i64 mc, .int .i64 mt, .int .i64 c, .int .i64 t, .bool m, .bool r]] w fun e w' => e = .returned (.agg #[.int .i64 mc, .int .i64 mt, .int .i64 c, .int .i64 t, .bool m, .bool r]) ∧ Ex w w' := by
  have H := hid h
  clear h
  go_enter Try.func58, Try.ntmps58
  go_wp2_with (first
        | (go_at_call 61; (with_reducible refine (vectorOk_v (H.out) _).mono ?_); rintro e w' ⟨rfl, hx⟩; obtain ⟨g, rfl⟩ := hx))
  refine bodyPost_ret (v := _) (by simp [results, Try.results58, go_sem] <;> rfl) rfl ⟨rfl, ?_⟩
  exact (by repeat (first | exact Ex.refl _ | apply Ex.plus | apply Ex.alloc | apply Ex.drew))

set_option maxHeartbeats 400000 in
theorem unmask_t (mc mt c t : Int) (m r : Bool) (h : vectorOkB mc mt c t m r = true) (w : World) :
    Calls Try.prog 58 #[.agg #[.int .i64 mc, .int .i64 mt, .int .i64 c, .int .i64 t, .bool m, .bool r]] w fun e w' => e = .returned (.agg #[.int .i64 (mc), .int .i64 (mt), .int .i64 (c), .int .i64 (t), .bool (false), .bool (r || (dueB mc mt c t && !false))]) ∧ Ex w w' := by
  have H := hid h
  clear h
  go_enter Try.func58, Try.ntmps58
  go_wp2_with (first
        | (go_at_call 61; (with_reducible refine (vectorOk_v (H.out) _).mono ?_); rintro e w' ⟨rfl, hx⟩; obtain ⟨g, rfl⟩ := hx)
        | (go_at_call 69; (with_reducible refine (checked_any _ _ _ _ _ _ _).mono ?_); rintro e w' ⟨rfl, hx⟩; obtain ⟨g, rfl⟩ := hx))
  refine bodyPost_ret (v := _) (by simp [results, Try.results58, go_sem] <;> rfl) rfl ⟨rfl, ?_⟩
  exact (by repeat (first | exact Ex.refl _ | apply Ex.plus | apply Ex.alloc | apply Ex.drew))

set_option maxHeartbeats 400000 in
theorem maskVector_f (mc mt c t : Int) (m r : Bool) (h : vectorOkB mc mt c t m r = false) (w : World) :
    Calls Try.prog 62 #[.agg #[.int .i64 mc, .int .i64 mt, .int .i64 c, .int .i64 t, .bool m, .bool r]] w fun e w' => e = .returned (.agg #[.int .i64 mc, .int .i64 mt, .int .i64 c, .int .i64 t, .bool m, .bool r]) ∧ Ex w w' := by
  have H := hid h
  clear h
  go_enter Try.func62, Try.ntmps62
  go_wp2_with (first
        | (go_at_call 61; (with_reducible refine (vectorOk_v (H.out) _).mono ?_); rintro e w' ⟨rfl, hx⟩; obtain ⟨g, rfl⟩ := hx))
  refine bodyPost_ret (v := _) (by simp [results, Try.results62, go_sem] <;> rfl) rfl ⟨rfl, ?_⟩
  exact (by repeat (first | exact Ex.refl _ | apply Ex.plus | apply Ex.alloc | apply Ex.drew))

set_option maxHeartbeats 400000 in
theorem maskVector_t (mc mt c t : Int) (m r : Bool) (h : vectorOkB mc mt c t m r = true) (w : World) :
    Calls Try.prog 62 #[.agg #[.int .i64 mc, .int .i64 mt, .int .i64 c, .int .i64 t, .bool m, .bool r]] w fun e w' => e = .returned (.agg #[.int .i64 (mc), .int .i64 (mt), .int .i64 (c), .int .i64 (t), .bool (true), .bool (false)]) ∧ Ex w w' := by
  have H := hid h
  clear h
  go_enter Try.func62, Try.ntmps62
  go_wp2_with (first
        | (go_at_call 61; (with_reducible refine (vectorOk_v (H.out) _).mono ?_); rintro e w' ⟨rfl, hx⟩; obtain ⟨g, rfl⟩ := hx)
        | (go_at_call 69; (with_reducible refine (checked_any _ _ _ _ _ _ _).mono ?_); rintro e w' ⟨rfl, hx⟩; obtain ⟨g, rfl⟩ := hx))
  refine bodyPost_ret (v := _) (by simp [results, Try.results62, go_sem] <;> rfl) rfl ⟨rfl, ?_⟩
  exact (by repeat (first | exact Ex.refl _ | apply Ex.plus | apply Ex.alloc | apply Ex.drew))

set_option maxHeartbeats 400000 in
theorem addEventS_f (mc mt c t : Int) (m r : Bool) (h : vectorOkB mc mt c t m r = false) (w : World) :
    Calls Try.prog 113 #[.agg #[.int .i64 mc, .int .i64 mt, .int .i64 c, .int .i64 t, .bool m, .bool r]] w fun e w' => e = .returned (.agg #[.int .i64 mc, .int .i64 mt, .int .i64 c, .int .i64 t, .bool m, .bool r]) ∧ Ex w w' := by
  have H := hid h
  clear h
  go_enter Try.func113, Try.ntmps113
  go_wp2_with (first
        | (go_at_call 67; (with_reducible refine (vectorOkS_v (H.out) _).mono ?_); rintro e w' ⟨rfl, hx⟩; obtain ⟨g, rfl⟩ := hx))
  refine bodyPost_ret (v := _) (by simp [results, Try.results113, go_sem] <;> rfl) rfl ⟨rfl, ?_⟩
  exact (by repeat (first | exact Ex.refl _ | apply Ex.plus | apply Ex.alloc | apply Ex.drew))

set_option maxHeartbeats 400000 in
theorem addEventS_t (mc mt c t : Int) (m r : Bool) (h : vectorOkB mc mt c t m r = true) (w : World) :
    Calls Try.prog 113 #[.agg #[.int .i64 mc, .int .i64 mt, .int .i64 c, .int .i64 t, .bool m, .bool r]] w fun e w' => e = .returned (.agg #[.int .i64 (mc), .int .i64 (mt), .int .i64 (min (c + 1) 1000000), .int .i64 (t), .bool (m), .bool (r || (dueB mc mt (min (c + 1) 1000000) t && !m))]) ∧ Ex w w' := by
  obtain ⟨b1, b2, b3, b4, b5, b6, b7, b8⟩ := vok_bd h
  rcases (by omega : c + 1 < 1000000 ∨ c = 999999 ∨ 1000000 < c + 1) with hc | rfl | hc
  case' inl => rw [show min (c + 1) 1000000 = c + 1 from by omega]
  case' inr.inl => rw [show min (999999 + 1) 1000000 = (1000000 : Int) from by omega]
  case' inr.inr => rw [show min (c + 1) 1000000 = 1000000 from by omega]
  all_goals
    have H := hid h
    clear h
    go_enter Try.func113, Try.ntmps113
    go_wp2_with (first
          | (go_at_call 67; (with_reducible refine (vectorOkS_v (H.out) _).mono ?_); rintro e w' ⟨rfl, hx⟩; obtain ⟨g, rfl⟩ := hx)
          | (go_at_call 68; (with_reducible refine (l28Check_any _ _ _ _ _ _ _).mono ?_); rintro e w' ⟨rfl, hx⟩; obtain ⟨g, rfl⟩ := hx))
    refine bodyPost_ret (v := _) (by simp [results, Try.results113, go_sem] <;> rfl) rfl ⟨rfl, ?_⟩
    exact (by repeat (first | exact Ex.refl _ | apply Ex.plus | apply Ex.alloc | apply Ex.drew))

set_option maxHeartbeats 400000 in
theorem tickVectorS_f (mc mt c t : Int) (m r : Bool) (h : vectorOkB mc mt c t m r = false) (w : World) :
    Calls Try.prog 15 #[.agg #[.int .i64 mc, .int .i64 mt, .int .i64 c, .int .i64 t, .bool m, .bool r]] w fun e w' => e = .returned (.agg #[.int .i64 mc, .int .i64 mt, .int .i64 c, .int .i64 t, .bool m, .bool r]) ∧ Ex w w' := by
  have H := hid h
  clear h
  go_enter Try.func15, Try.ntmps15
  go_wp2_with (first
        | (go_at_call 67; (with_reducible refine (vectorOkS_v (H.out) _).mono ?_); rintro e w' ⟨rfl, hx⟩; obtain ⟨g, rfl⟩ := hx))
  refine bodyPost_ret (v := _) (by simp [results, Try.results15, go_sem] <;> rfl) rfl ⟨rfl, ?_⟩
  exact (by repeat (first | exact Ex.refl _ | apply Ex.plus | apply Ex.alloc | apply Ex.drew))

set_option maxHeartbeats 400000 in
theorem tickVectorS_t (mc mt c t : Int) (m r : Bool) (h : vectorOkB mc mt c t m r = true) (hz : 0 < c) (w : World) :
    Calls Try.prog 15 #[.agg #[.int .i64 mc, .int .i64 mt, .int .i64 c, .int .i64 t, .bool m, .bool r]] w fun e w' => e = .returned (.agg #[.int .i64 (mc), .int .i64 (mt), .int .i64 (c), .int .i64 (min (t + 1) 1000000), .bool (m), .bool (r || (dueB mc mt c (min (t + 1) 1000000) && !m))]) ∧ Ex w w' := by
  obtain ⟨b1, b2, b3, b4, b5, b6, b7, b8⟩ := vok_bd h
  rcases (by omega : t + 1 < 1000000 ∨ t = 999999 ∨ 1000000 < t + 1) with hc | rfl | hc
  case' inl => rw [show min (t + 1) 1000000 = t + 1 from by omega]
  case' inr.inl => rw [show min (999999 + 1) 1000000 = (1000000 : Int) from by omega]
  case' inr.inr => rw [show min (t + 1) 1000000 = 1000000 from by omega]
  all_goals
    have H := hid h
    clear h
    go_enter Try.func15, Try.ntmps15
    go_wp2_with (first
          | (go_at_call 67; (with_reducible refine (vectorOkS_v (H.out) _).mono ?_); rintro e w' ⟨rfl, hx⟩; obtain ⟨g, rfl⟩ := hx)
          | (go_at_call 68; (with_reducible refine (l28Check_any _ _ _ _ _ _ _).mono ?_); rintro e w' ⟨rfl, hx⟩; obtain ⟨g, rfl⟩ := hx))
    refine bodyPost_ret (v := _) (by simp [results, Try.results15, go_sem] <;> rfl) rfl ⟨rfl, ?_⟩
    exact (by repeat (first | exact Ex.refl _ | apply Ex.plus | apply Ex.alloc | apply Ex.drew))
set_option maxHeartbeats 400000 in
theorem tickVectorS_z (mc mt c t : Int) (m r : Bool) (h : vectorOkB mc mt c t m r = true) (hz : c ≤ 0) (w : World) :
    Calls Try.prog 15 #[.agg #[.int .i64 mc, .int .i64 mt, .int .i64 c, .int .i64 t, .bool m, .bool r]] w fun e w' => e = .returned (.agg #[.int .i64 (mc), .int .i64 (mt), .int .i64 (c), .int .i64 (t), .bool (m), .bool (r || (dueB mc mt c t && !m))]) ∧ Ex w w' := by
  obtain ⟨b1, b2, b3, b4, b5, b6, b7, b8⟩ := vok_bd h
  all_goals
    have H := hid h
    clear h
    go_enter Try.func15, Try.ntmps15
    go_wp2_with (first
          | (go_at_call 67; (with_reducible refine (vectorOkS_v (H.out) _).mono ?_); rintro e w' ⟨rfl, hx⟩; obtain ⟨g, rfl⟩ := hx)
          | (go_at_call 68; (with_reducible refine (l28Check_any _ _ _ _ _ _ _).mono ?_); rintro e w' ⟨rfl, hx⟩; obtain ⟨g, rfl⟩ := hx))
    refine bodyPost_ret (v := _) (by simp [results, Try.results15, go_sem] <;> rfl) rfl ⟨rfl, ?_⟩
    exact (by repeat (first | exact Ex.refl _ | apply Ex.plus | apply Ex.alloc | apply Ex.drew))

set_option maxHeartbeats 400000 in
theorem unmaskS_f (mc mt c t : Int) (m r : Bool) (h : vectorOkB mc mt c t m r = false) (w : World) :
    Calls Try.prog 112 #[.agg #[.int .i64 mc, .int .i64 mt, .int .i64 c, .int .i64 t, .bool m, .bool r]] w fun e w' => e = .returned (.agg #[.int .i64 mc, .int .i64 mt, .int .i64 c, .int .i64 t, .bool m, .bool r]) ∧ Ex w w' := by
  have H := hid h
  clear h
  go_enter Try.func112, Try.ntmps112
  go_wp2_with (first
        | (go_at_call 67; (with_reducible refine (vectorOkS_v (H.out) _).mono ?_); rintro e w' ⟨rfl, hx⟩; obtain ⟨g, rfl⟩ := hx))
  refine bodyPost_ret (v := _) (by simp [results, Try.results112, go_sem] <;> rfl) rfl ⟨rfl, ?_⟩
  exact (by repeat (first | exact Ex.refl _ | apply Ex.plus | apply Ex.alloc | apply Ex.drew))

set_option maxHeartbeats 400000 in
theorem unmaskS_t (mc mt c t : Int) (m r : Bool) (h : vectorOkB mc mt c t m r = true) (w : World) :
    Calls Try.prog 112 #[.agg #[.int .i64 mc, .int .i64 mt, .int .i64 c, .int .i64 t, .bool m, .bool r]] w fun e w' => e = .returned (.agg #[.int .i64 (mc), .int .i64 (mt), .int .i64 (c), .int .i64 (t), .bool (false), .bool (r || (dueB mc mt c t && !false))]) ∧ Ex w w' := by
  have H := hid h
  clear h
  go_enter Try.func112, Try.ntmps112
  go_wp2_with (first
        | (go_at_call 67; (with_reducible refine (vectorOkS_v (H.out) _).mono ?_); rintro e w' ⟨rfl, hx⟩; obtain ⟨g, rfl⟩ := hx)
        | (go_at_call 68; (with_reducible refine (l28Check_any _ _ _ _ _ _ _).mono ?_); rintro e w' ⟨rfl, hx⟩; obtain ⟨g, rfl⟩ := hx))
  refine bodyPost_ret (v := _) (by simp [results, Try.results112, go_sem] <;> rfl) rfl ⟨rfl, ?_⟩
  exact (by repeat (first | exact Ex.refl _ | apply Ex.plus | apply Ex.alloc | apply Ex.drew))

set_option maxHeartbeats 400000 in
theorem maskVectorS_f (mc mt c t : Int) (m r : Bool) (h : vectorOkB mc mt c t m r = false) (w : World) :
    Calls Try.prog 110 #[.agg #[.int .i64 mc, .int .i64 mt, .int .i64 c, .int .i64 t, .bool m, .bool r]] w fun e w' => e = .returned (.agg #[.int .i64 mc, .int .i64 mt, .int .i64 c, .int .i64 t, .bool m, .bool r]) ∧ Ex w w' := by
  have H := hid h
  clear h
  go_enter Try.func110, Try.ntmps110
  go_wp2_with (first
        | (go_at_call 67; (with_reducible refine (vectorOkS_v (H.out) _).mono ?_); rintro e w' ⟨rfl, hx⟩; obtain ⟨g, rfl⟩ := hx))
  refine bodyPost_ret (v := _) (by simp [results, Try.results110, go_sem] <;> rfl) rfl ⟨rfl, ?_⟩
  exact (by repeat (first | exact Ex.refl _ | apply Ex.plus | apply Ex.alloc | apply Ex.drew))

set_option maxHeartbeats 400000 in
theorem maskVectorS_t (mc mt c t : Int) (m r : Bool) (h : vectorOkB mc mt c t m r = true) (w : World) :
    Calls Try.prog 110 #[.agg #[.int .i64 mc, .int .i64 mt, .int .i64 c, .int .i64 t, .bool m, .bool r]] w fun e w' => e = .returned (.agg #[.int .i64 (mc), .int .i64 (mt), .int .i64 (c), .int .i64 (t), .bool (true), .bool (false)]) ∧ Ex w w' := by
  have H := hid h
  clear h
  go_enter Try.func110, Try.ntmps110
  go_wp2_with (first
        | (go_at_call 67; (with_reducible refine (vectorOkS_v (H.out) _).mono ?_); rintro e w' ⟨rfl, hx⟩; obtain ⟨g, rfl⟩ := hx)
        | (go_at_call 68; (with_reducible refine (l28Check_any _ _ _ _ _ _ _).mono ?_); rintro e w' ⟨rfl, hx⟩; obtain ⟨g, rfl⟩ := hx))
  refine bodyPost_ret (v := _) (by simp [results, Try.results110, go_sem] <;> rfl) rfl ⟨rfl, ?_⟩
  exact (by repeat (first | exact Ex.refl _ | apply Ex.plus | apply Ex.alloc | apply Ex.drew))

set_option maxHeartbeats 400000 in
theorem takeInterrupt_t (mc mt c t : Int) (m : Bool) (h : vectorOkB mc mt c t m true = true) (w : World) :
    Calls Try.prog 60 #[.agg #[.int .i64 mc, .int .i64 mt, .int .i64 c, .int .i64 t, .bool m, .bool true]] w fun e w' => e = .returned (.tuple #[.agg #[.int .i64 (mc), .int .i64 (mt), .int .i64 (0), .int .i64 (0), .bool (true), .bool (false)], .bool true]) ∧ Ex w w' := by
  have H := hid h
  clear h
  go_enter Try.func60, Try.ntmps60
  go_wp2_with (first
        | (go_at_call 61; (with_reducible refine (vectorOk_v H.out _).mono ?_); rintro e w' ⟨rfl, hx⟩; obtain ⟨g, rfl⟩ := hx))
  refine bodyPost_ret (v := _) (by simp [results, Try.results60, go_sem] <;> rfl) rfl ⟨rfl, ?_⟩
  exact (by repeat (first | exact Ex.refl _ | apply Ex.plus | apply Ex.alloc | apply Ex.drew))

set_option maxHeartbeats 400000 in
theorem takeInterrupt_f (mc mt c t : Int) (m r : Bool) (h : vectorOkB mc mt c t m r = false) (w : World) :
    Calls Try.prog 60 #[.agg #[.int .i64 mc, .int .i64 mt, .int .i64 c, .int .i64 t, .bool m, .bool r]] w fun e w' => e = .returned (.tuple #[.agg #[.int .i64 mc, .int .i64 mt, .int .i64 c, .int .i64 t, .bool m, .bool r], .bool false]) ∧ Ex w w' := by
  have H := hid h
  clear h
  go_enter Try.func60, Try.ntmps60
  go_wp2_with (first
        | (go_at_call 61; (with_reducible refine (vectorOk_v H.out _).mono ?_); rintro e w' ⟨rfl, hx⟩; obtain ⟨g, rfl⟩ := hx))
  refine bodyPost_ret (v := _) (by simp [results, Try.results60, go_sem] <;> rfl) rfl ⟨rfl, ?_⟩
  exact (by repeat (first | exact Ex.refl _ | apply Ex.plus | apply Ex.alloc | apply Ex.drew))

set_option maxHeartbeats 400000 in
theorem takeInterrupt_n (mc mt c t : Int) (m : Bool) (h : vectorOkB mc mt c t m false = true) (w : World) :
    Calls Try.prog 60 #[.agg #[.int .i64 mc, .int .i64 mt, .int .i64 c, .int .i64 t, .bool m, .bool false]] w fun e w' => e = .returned (.tuple #[.agg #[.int .i64 mc, .int .i64 mt, .int .i64 c, .int .i64 t, .bool m, .bool false], .bool false]) ∧ Ex w w' := by
  have H := hid h
  clear h
  go_enter Try.func60, Try.ntmps60
  go_wp2_with (first
        | (go_at_call 61; (with_reducible refine (vectorOk_v H.out _).mono ?_); rintro e w' ⟨rfl, hx⟩; obtain ⟨g, rfl⟩ := hx))
  refine bodyPost_ret (v := _) (by simp [results, Try.results60, go_sem] <;> rfl) rfl ⟨rfl, ?_⟩
  exact (by repeat (first | exact Ex.refl _ | apply Ex.plus | apply Ex.alloc | apply Ex.drew))

set_option maxHeartbeats 400000 in
theorem ticks_any (mc mt c t : Int) (m r : Bool) (w : World) :
    Calls Try.prog 59 #[.agg #[.int .i64 mc, .int .i64 mt, .int .i64 c, .int .i64 t, .bool m, .bool r]] w fun e w' => e = .returned (.int .i64 (ticksV mc mt c t m r)) ∧ Ex w w' := by
  cases h : vectorOkB mc mt c t m r <;> cases m <;> cases hc : (c == 0) <;> cases r
  all_goals try obtain ⟨b1, b2, b3, b4, b5, b6, b7, b8⟩ := vok_bd h
  all_goals
    have H := hid h
    clear h
    go_enter Try.func59, Try.ntmps59
    go_wp2_with (first
          | (go_at_call 61; (with_reducible refine (vectorOk_v H.out _).mono ?_); rintro e w' ⟨rfl, hx⟩; obtain ⟨g, rfl⟩ := hx))
    go_ret
    exact ⟨ret_int (by simp [ticksV, H.out, hc]), (by repeat (first | exact Ex.refl _ | apply Ex.plus | apply Ex.alloc | apply Ex.drew))⟩

set_option maxHeartbeats 400000 in
theorem takeInterruptS_t (mc mt c t : Int) (m : Bool) (h : vectorOkB mc mt c t m true = true) (w : World) :
    Calls Try.prog 111 #[.agg #[.int .i64 mc, .int .i64 mt, .int .i64 c, .int .i64 t, .bool m, .bool true]] w fun e w' => e = .returned (.tuple #[.agg #[.int .i64 (mc), .int .i64 (mt), .int .i64 (0), .int .i64 (0), .bool (true), .bool (false)], .bool true]) ∧ Ex w w' := by
  have H := hid h
  clear h
  go_enter Try.func111, Try.ntmps111
  go_wp2_with (first
        | (go_at_call 67; (with_reducible refine (vectorOkS_v H.out _).mono ?_); rintro e w' ⟨rfl, hx⟩; obtain ⟨g, rfl⟩ := hx))
  refine bodyPost_ret (v := _) (by simp [results, Try.results111, go_sem] <;> rfl) rfl ⟨rfl, ?_⟩
  exact (by repeat (first | exact Ex.refl _ | apply Ex.plus | apply Ex.alloc | apply Ex.drew))

set_option maxHeartbeats 400000 in
theorem takeInterruptS_f (mc mt c t : Int) (m r : Bool) (h : vectorOkB mc mt c t m r = false) (w : World) :
    Calls Try.prog 111 #[.agg #[.int .i64 mc, .int .i64 mt, .int .i64 c, .int .i64 t, .bool m, .bool r]] w fun e w' => e = .returned (.tuple #[.agg #[.int .i64 mc, .int .i64 mt, .int .i64 c, .int .i64 t, .bool m, .bool r], .bool false]) ∧ Ex w w' := by
  have H := hid h
  clear h
  go_enter Try.func111, Try.ntmps111
  go_wp2_with (first
        | (go_at_call 67; (with_reducible refine (vectorOkS_v H.out _).mono ?_); rintro e w' ⟨rfl, hx⟩; obtain ⟨g, rfl⟩ := hx))
  refine bodyPost_ret (v := _) (by simp [results, Try.results111, go_sem] <;> rfl) rfl ⟨rfl, ?_⟩
  exact (by repeat (first | exact Ex.refl _ | apply Ex.plus | apply Ex.alloc | apply Ex.drew))

set_option maxHeartbeats 400000 in
theorem takeInterruptS_n (mc mt c t : Int) (m : Bool) (h : vectorOkB mc mt c t m false = true) (w : World) :
    Calls Try.prog 111 #[.agg #[.int .i64 mc, .int .i64 mt, .int .i64 c, .int .i64 t, .bool m, .bool false]] w fun e w' => e = .returned (.tuple #[.agg #[.int .i64 mc, .int .i64 mt, .int .i64 c, .int .i64 t, .bool m, .bool false], .bool false]) ∧ Ex w w' := by
  have H := hid h
  clear h
  go_enter Try.func111, Try.ntmps111
  go_wp2_with (first
        | (go_at_call 67; (with_reducible refine (vectorOkS_v H.out _).mono ?_); rintro e w' ⟨rfl, hx⟩; obtain ⟨g, rfl⟩ := hx))
  refine bodyPost_ret (v := _) (by simp [results, Try.results111, go_sem] <;> rfl) rfl ⟨rfl, ?_⟩
  exact (by repeat (first | exact Ex.refl _ | apply Ex.plus | apply Ex.alloc | apply Ex.drew))

set_option maxHeartbeats 400000 in
theorem newVectorS_t (a b : Int) (h : vectorOkB a b 0 0 false false = true) (w : World) :
    Calls Try.prog 109 #[.int .i64 a, .int .i64 b] w fun e w' => e = .returned (.tuple #[.agg #[.int .i64 (a), .int .i64 (b), .int .i64 (0), .int .i64 (0), .bool (false), .bool (false)], .bool true]) ∧ Ex w w' := by
  have H := hid h
  clear h
  go_enter Try.func109, Try.ntmps109
  go_wp2_with (first
        | (go_at_call 67; (with_reducible refine (vectorOkS_v H.out _).mono ?_); rintro e w' ⟨rfl, hx⟩; obtain ⟨g, rfl⟩ := hx))
  refine bodyPost_ret (v := _) (by simp [results, Try.results109, go_sem] <;> rfl) rfl ⟨rfl, ?_⟩
  exact (by repeat (first | exact Ex.refl _ | apply Ex.plus | apply Ex.alloc | apply Ex.drew))

set_option maxHeartbeats 400000 in
theorem newVectorS_f (a b : Int) (h : vectorOkB a b 0 0 false false = false) (w : World) :
    Calls Try.prog 109 #[.int .i64 a, .int .i64 b] w fun e w' => e = .returned (.tuple #[.agg #[.int .i64 (0), .int .i64 (0), .int .i64 (0), .int .i64 (0), .bool (false), .bool (false)], .bool false]) ∧ Ex w w' := by
  have H := hid h
  clear h
  go_enter Try.func109, Try.ntmps109
  go_wp2_with (first
        | (go_at_call 67; (with_reducible refine (vectorOkS_v H.out _).mono ?_); rintro e w' ⟨rfl, hx⟩; obtain ⟨g, rfl⟩ := hx))
  refine bodyPost_ret (v := _) (by simp [results, Try.results109, go_sem] <;> rfl) rfl ⟨rfl, ?_⟩
  exact (by repeat (first | exact Ex.refl _ | apply Ex.plus | apply Ex.alloc | apply Ex.drew))

end Go.Proofs.Ytlpipllhbobfbaa

