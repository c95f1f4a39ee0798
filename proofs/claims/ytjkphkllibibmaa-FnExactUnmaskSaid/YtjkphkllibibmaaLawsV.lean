/- The walks of the laws over an interrupt vector. -/
import Derived.Test.YtjkphkllibibmaaRows
import Derived.Test.YtjkphkllibibmaaVecF
import Derived.Test.YtjkphkllibibmaaRep
namespace Go.Proofs.Ytjkphkllibibmaa
open Go.RowKit
set_option linter.unusedVariables false

set_option maxHeartbeats 400000 in
theorem toVector_any (x_MaxCount : Int) (x_MaxTime : Int) (x_Count : Int) (x_Time : Int) (x_Masked : Bool) (x_Raised : Bool) (w : World) :
    Calls Try.prog 22 #[.agg #[.int .i64 x_MaxCount, .int .i64 x_MaxTime, .int .i64 x_Count, .int .i64 x_Time, .bool x_Masked, .bool x_Raised]] w fun e w' => e = .returned (.agg #[.int .i64 x_MaxCount, .int .i64 x_MaxTime, .int .i64 x_Count, .int .i64 x_Time, .bool x_Masked, .bool x_Raised]) ∧ Ex w w' := by
  go_enter Try.func22, Try.ntmps22
  go_wp2
  refine bodyPost_ret (v := .agg #[.int .i64 x_MaxCount, .int .i64 x_MaxTime, .int .i64 x_Count, .int .i64 x_Time, .bool x_Masked, .bool x_Raised]) (by simp [results, Try.results22, go_sem]) rfl ⟨rfl, ?_⟩
  exact (((Ex.refl _).alloc _).alloc _).alloc _

set_option maxHeartbeats 400000 in
theorem eqVector_same (x_MaxCount : Int) (x_MaxTime : Int) (x_Count : Int) (x_Time : Int) (x_Masked : Bool) (x_Raised : Bool) (w : World) :
    Calls Try.prog 29 #[.agg #[.int .i64 x_MaxCount, .int .i64 x_MaxTime, .int .i64 x_Count, .int .i64 x_Time, .bool x_Masked, .bool x_Raised], .agg #[.int .i64 x_MaxCount, .int .i64 x_MaxTime, .int .i64 x_Count, .int .i64 x_Time, .bool x_Masked, .bool x_Raised]] w fun e w' => e = .returned (.bool true) ∧ Ex w w' := by
  go_enter Try.func29, Try.ntmps29
  go_wp2
  go_ret
  exact ⟨rfl, ((Ex.refl _).alloc _).alloc _⟩

set_option maxHeartbeats 400000 in
theorem walk_FnExactTicksToInterrupt (w : World) (aV_MaxCount : Int) (haV_MaxCount : i64ok aV_MaxCount) (aV_MaxTime : Int) (haV_MaxTime : i64ok aV_MaxTime) (aV_Count : Int) (haV_Count : i64ok aV_Count) (aV_Time : Int) (haV_Time : i64ok aV_Time) (aV_Masked : Bool) (aV_Raised : Bool) :
    Calls Try.prog 5 #[.agg #[.int .i64 aV_MaxCount, .int .i64 aV_MaxTime, .int .i64 aV_Count, .int .i64 aV_Time, .bool aV_Masked, .bool aV_Raised]] w fun e w' => e = .returned (.bool true) ∧ Ex w w' := by
  go_enter Try.func5, Try.ntmps5
  go_wp2_with (first
        | (go_at_call 22; (with_reducible refine (toVector_any _ _ _ _ _ _ _).mono ?_); rintro e w' ⟨rfl, hx⟩; obtain ⟨g, rfl⟩ := hx)
        | (go_at_call 23; (with_reducible refine (ticks_any _ _ _ _ _ _ _).mono ?_); rintro e w' ⟨rfl, hx⟩; obtain ⟨g, rfl⟩ := hx)
        | (go_at_call 21; (with_reducible refine (ticksS_any _ _ _ _ _ _ _).mono ?_); rintro e w' ⟨rfl, hx⟩; obtain ⟨g, rfl⟩ := hx))
  go_ret
  exact ⟨rfl, (by repeat (first | exact Ex.refl _ | apply Ex.plus | apply Ex.alloc | apply Ex.drew))⟩

set_option maxHeartbeats 400000 in
theorem walk_FnExactNewVector (w : World) (aCount : Int) (haCount : i64ok aCount) (aTime : Int) (haTime : i64ok aTime) :
    Calls Try.prog 7 #[.int .i64 aCount, .int .i64 aTime] w fun e w' => e = .returned (.bool true) ∧ Ex w w' := by
  cases h : vectorOkB aCount aTime 0 0 false false
  all_goals
    have H := hid h
    clear h
    go_enter Try.func7, Try.ntmps7
    go_wp2_with (first
          | (go_at_call 29; (with_reducible refine (eqVector_same _ _ _ _ _ _ _).mono ?_); rintro e w' ⟨rfl, hx⟩; obtain ⟨g, rfl⟩ := hx)
          | (go_at_call 28; (first | (with_reducible refine (newVector_f _ _ H.out _).mono ?_) | (with_reducible refine (newVector_t _ _ H.out _).mono ?_)); rintro e w' ⟨rfl, hx⟩; obtain ⟨g, rfl⟩ := hx)
          | (go_at_call 27; (first | (with_reducible refine (newVectorS_f _ _ H.out _).mono ?_) | (with_reducible refine (newVectorS_t _ _ H.out _).mono ?_)); rintro e w' ⟨rfl, hx⟩; obtain ⟨g, rfl⟩ := hx))
    go_ret
    exact ⟨rfl, (by repeat (first | exact Ex.refl _ | apply Ex.plus | apply Ex.alloc | apply Ex.drew))⟩

set_option maxHeartbeats 400000 in
theorem walk_FnExactMaskVector (w : World) (aV_MaxCount : Int) (haV_MaxCount : i64ok aV_MaxCount) (aV_MaxTime : Int) (haV_MaxTime : i64ok aV_MaxTime) (aV_Count : Int) (haV_Count : i64ok aV_Count) (aV_Time : Int) (haV_Time : i64ok aV_Time) (aV_Masked : Bool) (aV_Raised : Bool) :
    Calls Try.prog 10 #[.agg #[.int .i64 aV_MaxCount, .int .i64 aV_MaxTime, .int .i64 aV_Count, .int .i64 aV_Time, .bool aV_Masked, .bool aV_Raised]] w fun e w' => e = .returned (.bool true) ∧ Ex w w' := by
  cases h : vectorOkB aV_MaxCount aV_MaxTime aV_Count aV_Time aV_Masked aV_Raised
  all_goals
    have H := hid h
    clear h
    go_enter Try.func10, Try.ntmps10
    go_wp2_with (first
          | (go_at_call 22; (with_reducible refine (toVector_any _ _ _ _ _ _ _).mono ?_); rintro e w' ⟨rfl, hx⟩; obtain ⟨g, rfl⟩ := hx)
          | (go_at_call 29; (with_reducible refine (eqVector_same _ _ _ _ _ _ _).mono ?_); rintro e w' ⟨rfl, hx⟩; obtain ⟨g, rfl⟩ := hx)
          | (go_at_call 39; (first | (with_reducible refine (maskVector_f _ _ _ _ _ _ H.out _).mono ?_) | (with_reducible refine (maskVector_t _ _ _ _ _ _ H.out _).mono ?_)); rintro e w' ⟨rfl, hx⟩; obtain ⟨g, rfl⟩ := hx)
          | (go_at_call 38; (first | (with_reducible refine (maskVectorS_f _ _ _ _ _ _ H.out _).mono ?_) | (with_reducible refine (maskVectorS_t _ _ _ _ _ _ H.out _).mono ?_)); rintro e w' ⟨rfl, hx⟩; obtain ⟨g, rfl⟩ := hx))
    go_ret
    exact ⟨rfl, (by repeat (first | exact Ex.refl _ | apply Ex.plus | apply Ex.alloc | apply Ex.drew))⟩

set_option maxHeartbeats 400000 in
theorem walk_FnExactTakeInterrupt (w : World) (aV_MaxCount : Int) (haV_MaxCount : i64ok aV_MaxCount) (aV_MaxTime : Int) (haV_MaxTime : i64ok aV_MaxTime) (aV_Count : Int) (haV_Count : i64ok aV_Count) (aV_Time : Int) (haV_Time : i64ok aV_Time) (aV_Masked : Bool) (aV_Raised : Bool) :
    Calls Try.prog 12 #[.agg #[.int .i64 aV_MaxCount, .int .i64 aV_MaxTime, .int .i64 aV_Count, .int .i64 aV_Time, .bool aV_Masked, .bool aV_Raised]] w fun e w' => e = .returned (.bool true) ∧ Ex w w' := by
  cases aV_Raised <;> cases h : vectorOkB aV_MaxCount aV_MaxTime aV_Count aV_Time aV_Masked _
  all_goals
    have H := hid h
    clear h
    go_enter Try.func12, Try.ntmps12
    go_wp2_with (first
          | (go_at_call 22; (with_reducible refine (toVector_any _ _ _ _ _ _ _).mono ?_); rintro e w' ⟨rfl, hx⟩; obtain ⟨g, rfl⟩ := hx)
          | (go_at_call 29; (with_reducible refine (eqVector_same _ _ _ _ _ _ _).mono ?_); rintro e w' ⟨rfl, hx⟩; obtain ⟨g, rfl⟩ := hx)
          | (go_at_call 46; (first | (with_reducible refine (takeInterrupt_f _ _ _ _ _ _ H.out _).mono ?_) | (with_reducible refine (takeInterrupt_t _ _ _ _ _ H.out _).mono ?_) | (with_reducible refine (takeInterrupt_n _ _ _ _ _ H.out _).mono ?_)); rintro e w' ⟨rfl, hx⟩; obtain ⟨g, rfl⟩ := hx)
          | (go_at_call 45; (first | (with_reducible refine (takeInterruptS_f _ _ _ _ _ _ H.out _).mono ?_) | (with_reducible refine (takeInterruptS_t _ _ _ _ _ H.out _).mono ?_) | (with_reducible refine (takeInterruptS_n _ _ _ _ _ H.out _).mono ?_)); rintro e w' ⟨rfl, hx⟩; obtain ⟨g, rfl⟩ := hx))
    go_ret
    exact ⟨rfl, (by repeat (first | exact Ex.refl _ | apply Ex.plus | apply Ex.alloc | apply Ex.drew))⟩

set_option maxHeartbeats 400000 in
theorem walk_FnExactAddEvent (w : World) (aV_MaxCount : Int) (haV_MaxCount : i64ok aV_MaxCount) (aV_MaxTime : Int) (haV_MaxTime : i64ok aV_MaxTime) (aV_Count : Int) (haV_Count : i64ok aV_Count) (aV_Time : Int) (haV_Time : i64ok aV_Time) (aV_Masked : Bool) (aV_Raised : Bool) :
    Calls Try.prog 13 #[.agg #[.int .i64 aV_MaxCount, .int .i64 aV_MaxTime, .int .i64 aV_Count, .int .i64 aV_Time, .bool aV_Masked, .bool aV_Raised]] w fun e w' => e = .returned (.bool true) ∧ Ex w w' := by
  cases h : vectorOkB aV_MaxCount aV_MaxTime aV_Count aV_Time aV_Masked aV_Raised
  all_goals
    have H := hid h
    clear h
    go_enter Try.func13, Try.ntmps13
    go_wp2_with (first
          | (go_at_call 22; (with_reducible refine (toVector_any _ _ _ _ _ _ _).mono ?_); rintro e w' ⟨rfl, hx⟩; obtain ⟨g, rfl⟩ := hx)
          | (go_at_call 29; (with_reducible refine (eqVector_same _ _ _ _ _ _ _).mono ?_); rintro e w' ⟨rfl, hx⟩; obtain ⟨g, rfl⟩ := hx)
          | (go_at_call 48; (first | (with_reducible refine (addEvent_f _ _ _ _ _ _ H.out _).mono ?_) | (with_reducible refine (addEvent_t _ _ _ _ _ _ H.out _).mono ?_)); rintro e w' ⟨rfl, hx⟩; obtain ⟨g, rfl⟩ := hx)
          | (go_at_call 47; (first | (with_reducible refine (addEventS_f _ _ _ _ _ _ H.out _).mono ?_) | (with_reducible refine (addEventS_t _ _ _ _ _ _ H.out _).mono ?_)); rintro e w' ⟨rfl, hx⟩; obtain ⟨g, rfl⟩ := hx))
    go_ret
    exact ⟨rfl, (by repeat (first | exact Ex.refl _ | apply Ex.plus | apply Ex.alloc | apply Ex.drew))⟩

set_option maxHeartbeats 400000 in
theorem walk_FnExactUnmask (w : World) (aV_MaxCount : Int) (haV_MaxCount : i64ok aV_MaxCount) (aV_MaxTime : Int) (haV_MaxTime : i64ok aV_MaxTime) (aV_Count : Int) (haV_Count : i64ok aV_Count) (aV_Time : Int) (haV_Time : i64ok aV_Time) (aV_Masked : Bool) (aV_Raised : Bool) :
    Calls Try.prog 14 #[.agg #[.int .i64 aV_MaxCount, .int .i64 aV_MaxTime, .int .i64 aV_Count, .int .i64 aV_Time, .bool aV_Masked, .bool aV_Raised]] w fun e w' => e = .returned (.bool true) ∧ Ex w w' := by
  cases h : vectorOkB aV_MaxCount aV_MaxTime aV_Count aV_Time aV_Masked aV_Raised
  all_goals
    have H := hid h
    clear h
    go_enter Try.func14, Try.ntmps14
    go_wp2_with (first
          | (go_at_call 22; (with_reducible refine (toVector_any _ _ _ _ _ _ _).mono ?_); rintro e w' ⟨rfl, hx⟩; obtain ⟨g, rfl⟩ := hx)
          | (go_at_call 29; (with_reducible refine (eqVector_same _ _ _ _ _ _ _).mono ?_); rintro e w' ⟨rfl, hx⟩; obtain ⟨g, rfl⟩ := hx)
          | (go_at_call 50; (first | (with_reducible refine (unmask_f _ _ _ _ _ _ H.out _).mono ?_) | (with_reducible refine (unmask_t _ _ _ _ _ _ H.out _).mono ?_)); rintro e w' ⟨rfl, hx⟩; obtain ⟨g, rfl⟩ := hx)
          | (go_at_call 49; (first | (with_reducible refine (unmaskS_f _ _ _ _ _ _ H.out _).mono ?_) | (with_reducible refine (unmaskS_t _ _ _ _ _ _ H.out _).mono ?_)); rintro e w' ⟨rfl, hx⟩; obtain ⟨g, rfl⟩ := hx))
    go_ret
    exact ⟨rfl, (by repeat (first | exact Ex.refl _ | apply Ex.plus | apply Ex.alloc | apply Ex.drew))⟩

end Go.Proofs.Ytjkphkllibibmaa

