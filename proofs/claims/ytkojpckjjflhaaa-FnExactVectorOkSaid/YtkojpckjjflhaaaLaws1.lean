/- The walks of the first laws. -/
import Derived.Test.YtkojpckjjflhaaaRows
import Derived.Test.YtkojpckjjflhaaaScal
import Derived.Test.YtkojpckjjflhaaaVec
import Derived.Test.YtkojpckjjflhaaaRep
namespace Go.Proofs.Ytkojpckjjflhaaa
open Go.RowKit
set_option linter.unusedVariables false

set_option maxHeartbeats 400000 in
theorem toBucket_any (x_Rate : Int) (x_Burst : Int) (x_Tokens : Int) (w : World) :
    Calls Try.prog 14 #[.agg #[.int .i64 x_Rate, .int .i64 x_Burst, .int .i64 x_Tokens]] w fun e w' => e = .returned (.agg #[.int .i64 x_Rate, .int .i64 x_Burst, .int .i64 x_Tokens]) ∧ Ex w w' := by
  go_enter Try.func14, Try.ntmps14
  go_wp2
  refine bodyPost_ret (v := .agg #[.int .i64 x_Rate, .int .i64 x_Burst, .int .i64 x_Tokens]) (by simp [results, Try.results14, go_sem]) rfl ⟨rfl, ?_⟩
  exact (((Ex.refl _).alloc _).alloc _).alloc _

set_option maxHeartbeats 400000 in
theorem toCompletion_any (x_Cookie : Int) (x_Len : Int) (x_Size : Int) (x_Count : Int) (x_Hash : Int) (w : World) :
    Calls Try.prog 17 #[.agg #[.int .i64 x_Cookie, .int .i64 x_Len, .int .i64 x_Size, .int .i64 x_Count, .int .i64 x_Hash]] w fun e w' => e = .returned (.agg #[.int .i64 x_Cookie, .int .i64 x_Len, .int .i64 x_Size, .int .i64 x_Count, .int .i64 x_Hash]) ∧ Ex w w' := by
  go_enter Try.func17, Try.ntmps17
  go_wp2
  refine bodyPost_ret (v := .agg #[.int .i64 x_Cookie, .int .i64 x_Len, .int .i64 x_Size, .int .i64 x_Count, .int .i64 x_Hash]) (by simp [results, Try.results17, go_sem]) rfl ⟨rfl, ?_⟩
  exact (((Ex.refl _).alloc _).alloc _).alloc _

set_option maxHeartbeats 400000 in
theorem toCompletionQueue_any (x_Base : Int) (x_Size : Int) (x_Count : Int) (w : World) :
    Calls Try.prog 20 #[.agg #[.int .i64 x_Base, .int .i64 x_Size, .int .i64 x_Count]] w fun e w' => e = .returned (.agg #[.int .i64 x_Base, .int .i64 x_Size, .int .i64 x_Count]) ∧ Ex w w' := by
  go_enter Try.func20, Try.ntmps20
  go_wp2
  refine bodyPost_ret (v := .agg #[.int .i64 x_Base, .int .i64 x_Size, .int .i64 x_Count]) (by simp [results, Try.results20, go_sem]) rfl ⟨rfl, ?_⟩
  exact (((Ex.refl _).alloc _).alloc _).alloc _

set_option maxHeartbeats 400000 in
theorem toVector_any (x_MaxCount : Int) (x_MaxTime : Int) (x_Count : Int) (x_Time : Int) (x_Masked : Bool) (x_Raised : Bool) (w : World) :
    Calls Try.prog 23 #[.agg #[.int .i64 x_MaxCount, .int .i64 x_MaxTime, .int .i64 x_Count, .int .i64 x_Time, .bool x_Masked, .bool x_Raised]] w fun e w' => e = .returned (.agg #[.int .i64 x_MaxCount, .int .i64 x_MaxTime, .int .i64 x_Count, .int .i64 x_Time, .bool x_Masked, .bool x_Raised]) ∧ Ex w w' := by
  go_enter Try.func23, Try.ntmps23
  go_wp2
  refine bodyPost_ret (v := .agg #[.int .i64 x_MaxCount, .int .i64 x_MaxTime, .int .i64 x_Count, .int .i64 x_Time, .bool x_Masked, .bool x_Raised]) (by simp [results, Try.results23, go_sem]) rfl ⟨rfl, ?_⟩
  exact (((Ex.refl _).alloc _).alloc _).alloc _

def headroom (d r : Int) : Int := if inB d 1 8 && inB r 0 1000 then (2 * d + 1) * r else -1
theorem headroom_bd {d r : Int} (h1 : 1 ≤ d) (h2 : d ≤ 8) (h3 : 0 ≤ r) (h4 : r ≤ 1000) : 0 ≤ (2 * d + 1) * r ∧ (2 * d + 1) * r ≤ 17000 := by
  refine ⟨Int.mul_nonneg (by omega) h3, ?_⟩
  have h5 : (2 * d + 1) * r ≤ 17 * r := Int.mul_le_mul_of_nonneg_right (by omega) h3
  omega

set_option maxHeartbeats 400000 in
theorem headroom_any (d r : Int) (w : World) :
    Calls Try.prog 12 #[.int .i64 d, .int .i64 r] w fun e w' => e = .returned (.int .i64 (headroom d r)) ∧ w = w' := by
  cases h1 : inB d 1 8 <;> cases h2 : inB r 0 1000
  case' true.true =>
    obtain ⟨a1, a2⟩ := inB_iff.1 h1
    obtain ⟨a3, a4⟩ := inB_iff.1 h2
    obtain ⟨a5, a6⟩ := headroom_bd a1 a2 a3 a4
  all_goals
    have H1 := hid h1
    have H2 := hid h2
    clear h1 h2
    go_enter Try.func12, Try.ntmps12
    go_wp2_with (first
      | (go_at_call 37; (with_reducible refine (between_v H1.out _).mono ?_); rintro e w' ⟨rfl, rfl⟩)
      | (go_at_call 37; (with_reducible refine (between_v H2.out _).mono ?_); rintro e w' ⟨rfl, rfl⟩))
    go_ret
    exact ⟨ret_int (by simp [headroom, H1.out, H2.out]), rfl⟩

set_option maxHeartbeats 400000 in
theorem headroomS_any (d r : Int) (w : World) :
    Calls Try.prog 11 #[.int .i64 d, .int .i64 r] w fun e w' => e = .returned (.int .i64 (headroom d r)) ∧ w = w' := by
  cases h1 : inB d 1 8 <;> cases h2 : inB r 0 1000
  case' true.true =>
    obtain ⟨a1, a2⟩ := inB_iff.1 h1
    obtain ⟨a3, a4⟩ := inB_iff.1 h2
    obtain ⟨a5, a6⟩ := headroom_bd a1 a2 a3 a4
  all_goals
    have H1 := hid h1
    have H2 := hid h2
    clear h1 h2
    go_enter Try.func11, Try.ntmps11
    go_wp2_with (first
      | (go_at_call 36; (with_reducible refine (l01In_v H1.out _).mono ?_); rintro e w' ⟨rfl, rfl⟩)
      | (go_at_call 36; (with_reducible refine (l01In_v H2.out _).mono ?_); rintro e w' ⟨rfl, rfl⟩))
    go_ret
    exact ⟨ret_int (by simp [headroom, H1.out, H2.out]), rfl⟩

set_option maxHeartbeats 400000 in
theorem walk_FnExactHeadroom (w : World) (aDelay : Int) (haDelay : i64ok aDelay) (aRate : Int) (haRate : i64ok aRate) :
    Calls Try.prog 3 #[.int .i64 aDelay, .int .i64 aRate] w fun e w' => e = .returned (.bool true) ∧ Ex w w' := by
  go_enter Try.func3, Try.ntmps3
  go_wp2_with (first
    | (go_at_call 11; refine (headroomS_any _ _ _).mono ?_; rintro e w' ⟨rfl, rfl⟩)
    | (go_at_call 12; refine (headroom_any _ _ _).mono ?_; rintro e w' ⟨rfl, rfl⟩))
  go_ret
  exact ⟨rfl, by repeat (first | exact Ex.refl _ | apply Ex.plus | apply Ex.alloc | apply Ex.drew)⟩

set_option maxHeartbeats 400000 in
theorem walk_FnExactBucketOk (w : World) (aB_Rate : Int) (haB_Rate : i64ok aB_Rate) (aB_Burst : Int) (haB_Burst : i64ok aB_Burst) (aB_Tokens : Int) (haB_Tokens : i64ok aB_Tokens) :
    Calls Try.prog 4 #[.agg #[.int .i64 aB_Rate, .int .i64 aB_Burst, .int .i64 aB_Tokens]] w fun e w' => e = .returned (.bool true) ∧ Ex w w' := by
  go_enter Try.func4, Try.ntmps4
  go_wp2_with (first
    | (go_at_call 14; refine (toBucket_any _ _ _ _).mono ?_; rintro e w' ⟨rfl, hx⟩; obtain ⟨g, rfl⟩ := hx)
    | (go_at_call 13; refine (bucketOkS_any _ _ _ _).mono ?_; rintro e w' ⟨rfl, hx⟩; obtain ⟨g, rfl⟩ := hx)
    | (go_at_call 15; refine (bucketOk_any _ _ _ _).mono ?_; rintro e w' ⟨rfl, hx⟩; obtain ⟨g, rfl⟩ := hx))
  go_ret
  exact ⟨rfl, by repeat (first | exact Ex.refl _ | apply Ex.plus | apply Ex.alloc | apply Ex.drew)⟩

set_option maxHeartbeats 400000 in
theorem walk_FnExactCompletionOk (w : World) (aX_Cookie : Int) (haX_Cookie : i64ok aX_Cookie) (aX_Len : Int) (haX_Len : i64ok aX_Len) (aX_Size : Int) (haX_Size : i64ok aX_Size) (aX_Count : Int) (haX_Count : i64ok aX_Count) (aX_Hash : Int) (haX_Hash : i64ok aX_Hash) :
    Calls Try.prog 5 #[.agg #[.int .i64 aX_Cookie, .int .i64 aX_Len, .int .i64 aX_Size, .int .i64 aX_Count, .int .i64 aX_Hash]] w fun e w' => e = .returned (.bool true) ∧ Ex w w' := by
  go_enter Try.func5, Try.ntmps5
  go_wp2_with (first
    | (go_at_call 17; refine (toCompletion_any _ _ _ _ _ _).mono ?_; rintro e w' ⟨rfl, hx⟩; obtain ⟨g, rfl⟩ := hx)
    | (go_at_call 16; refine (completionOkS_any _ _ _ _ _ _).mono ?_; rintro e w' ⟨rfl, hx⟩; obtain ⟨g, rfl⟩ := hx)
    | (go_at_call 18; refine (completionOk_any _ _ _ _ _ _).mono ?_; rintro e w' ⟨rfl, hx⟩; obtain ⟨g, rfl⟩ := hx))
  go_ret
  exact ⟨rfl, by repeat (first | exact Ex.refl _ | apply Ex.plus | apply Ex.alloc | apply Ex.drew)⟩

set_option maxHeartbeats 400000 in
theorem walk_FnExactQueueOk (w : World) (aQ_Base : Int) (haQ_Base : i64ok aQ_Base) (aQ_Size : Int) (haQ_Size : i64ok aQ_Size) (aQ_Count : Int) (haQ_Count : i64ok aQ_Count) :
    Calls Try.prog 6 #[.agg #[.int .i64 aQ_Base, .int .i64 aQ_Size, .int .i64 aQ_Count]] w fun e w' => e = .returned (.bool true) ∧ Ex w w' := by
  go_enter Try.func6, Try.ntmps6
  go_wp2_with (first
    | (go_at_call 20; refine (toCompletionQueue_any _ _ _ _).mono ?_; rintro e w' ⟨rfl, hx⟩; obtain ⟨g, rfl⟩ := hx)
    | (go_at_call 19; refine (queueOkS_any _ _ _ _).mono ?_; rintro e w' ⟨rfl, hx⟩; obtain ⟨g, rfl⟩ := hx)
    | (go_at_call 21; refine (queueOk_any _ _ _ _).mono ?_; rintro e w' ⟨rfl, hx⟩; obtain ⟨g, rfl⟩ := hx))
  go_ret
  exact ⟨rfl, by repeat (first | exact Ex.refl _ | apply Ex.plus | apply Ex.alloc | apply Ex.drew)⟩

set_option maxHeartbeats 400000 in
theorem walk_FnExactVectorOk (w : World) (aV_MaxCount : Int) (haV_MaxCount : i64ok aV_MaxCount) (aV_MaxTime : Int) (haV_MaxTime : i64ok aV_MaxTime) (aV_Count : Int) (haV_Count : i64ok aV_Count) (aV_Time : Int) (haV_Time : i64ok aV_Time) (aV_Masked : Bool) (aV_Raised : Bool) :
    Calls Try.prog 7 #[.agg #[.int .i64 aV_MaxCount, .int .i64 aV_MaxTime, .int .i64 aV_Count, .int .i64 aV_Time, .bool aV_Masked, .bool aV_Raised]] w fun e w' => e = .returned (.bool true) ∧ Ex w w' := by
  go_enter Try.func7, Try.ntmps7
  go_wp2_with (first
    | (go_at_call 23; refine (toVector_any _ _ _ _ _ _ _).mono ?_; rintro e w' ⟨rfl, hx⟩; obtain ⟨g, rfl⟩ := hx)
    | (go_at_call 22; refine (vectorOkS_any _ _ _ _ _ _ _).mono ?_; rintro e w' ⟨rfl, hx⟩; obtain ⟨g, rfl⟩ := hx)
    | (go_at_call 24; refine (vectorOk_any _ _ _ _ _ _ _).mono ?_; rintro e w' ⟨rfl, hx⟩; obtain ⟨g, rfl⟩ := hx))
  go_ret
  exact ⟨rfl, by repeat (first | exact Ex.refl _ | apply Ex.plus | apply Ex.alloc | apply Ex.drew)⟩

end Go.Proofs.Ytkojpckjjflhaaa
