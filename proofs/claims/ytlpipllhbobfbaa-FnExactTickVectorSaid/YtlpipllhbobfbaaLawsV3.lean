/- The walks of the laws over an interrupt vector. -/
import Derived.Test.YtlpipllhbobfbaaRows
import Derived.Test.YtlpipllhbobfbaaVecF
import Derived.Test.YtlpipllhbobfbaaRep
namespace Go.Proofs.Ytlpipllhbobfbaa
open Go.RowKit
set_option linter.unusedVariables false

set_option maxHeartbeats 400000 in
theorem toVector_any (x_MaxCount : Int) (x_MaxTime : Int) (x_Count : Int) (x_Time : Int) (x_Masked : Bool) (x_Raised : Bool) (w : World) :
    Calls Try.prog 16 #[.agg #[.int .i64 x_MaxCount, .int .i64 x_MaxTime, .int .i64 x_Count, .int .i64 x_Time, .bool x_Masked, .bool x_Raised]] w fun e w' => e = .returned (.agg #[.int .i64 x_MaxCount, .int .i64 x_MaxTime, .int .i64 x_Count, .int .i64 x_Time, .bool x_Masked, .bool x_Raised]) ∧ Ex w w' := by
  go_enter Try.func16, Try.ntmps16
  go_wp2
  refine bodyPost_ret (v := .agg #[.int .i64 x_MaxCount, .int .i64 x_MaxTime, .int .i64 x_Count, .int .i64 x_Time, .bool x_Masked, .bool x_Raised]) (by simp [results, Try.results16, go_sem]) rfl ⟨rfl, ?_⟩
  exact (((Ex.refl _).alloc _).alloc _).alloc _

set_option maxHeartbeats 400000 in
theorem eqVector_same (x_MaxCount : Int) (x_MaxTime : Int) (x_Count : Int) (x_Time : Int) (x_Masked : Bool) (x_Raised : Bool) (w : World) :
    Calls Try.prog 18 #[.agg #[.int .i64 x_MaxCount, .int .i64 x_MaxTime, .int .i64 x_Count, .int .i64 x_Time, .bool x_Masked, .bool x_Raised], .agg #[.int .i64 x_MaxCount, .int .i64 x_MaxTime, .int .i64 x_Count, .int .i64 x_Time, .bool x_Masked, .bool x_Raised]] w fun e w' => e = .returned (.bool true) ∧ Ex w w' := by
  go_enter Try.func18, Try.ntmps18
  go_wp2
  go_ret
  exact ⟨rfl, ((Ex.refl _).alloc _).alloc _⟩

set_option maxHeartbeats 400000 in
theorem walk_FnExactTickVector (w : World) (aV_MaxCount : Int) (haV_MaxCount : i64ok aV_MaxCount) (aV_MaxTime : Int) (haV_MaxTime : i64ok aV_MaxTime) (aV_Count : Int) (haV_Count : i64ok aV_Count) (aV_Time : Int) (haV_Time : i64ok aV_Time) (aV_Masked : Bool) (aV_Raised : Bool) :
    Calls Try.prog 3 #[.agg #[.int .i64 aV_MaxCount, .int .i64 aV_MaxTime, .int .i64 aV_Count, .int .i64 aV_Time, .bool aV_Masked, .bool aV_Raised]] w fun e w' => e = .returned (.bool true) ∧ Ex w w' := by
  cases h : vectorOkB aV_MaxCount aV_MaxTime aV_Count aV_Time aV_Masked aV_Raised <;> rcases Int.lt_or_le 0 aV_Count with hz | hz
  all_goals
    have H := hid h
    clear h
    have HZ := hid hz
    clear hz
    go_enter Try.func3, Try.ntmps3
    go_wp2_with (first
          | (go_at_call 16; (with_reducible refine (toVector_any _ _ _ _ _ _ _).mono ?_); rintro e w' ⟨rfl, hx⟩; obtain ⟨g, rfl⟩ := hx)
          | (go_at_call 18; (with_reducible refine (eqVector_same _ _ _ _ _ _ _).mono ?_); rintro e w' ⟨rfl, hx⟩; obtain ⟨g, rfl⟩ := hx)
          | (go_at_call 17; (first | (with_reducible refine (tickVector_f _ _ _ _ _ _ H.out _).mono ?_) | (with_reducible refine (tickVector_t _ _ _ _ _ _ H.out HZ.out _).mono ?_) | (with_reducible refine (tickVector_z _ _ _ _ _ _ H.out HZ.out _).mono ?_)); rintro e w' ⟨rfl, hx⟩; obtain ⟨g, rfl⟩ := hx)
          | (go_at_call 15; (first | (with_reducible refine (tickVectorS_f _ _ _ _ _ _ H.out _).mono ?_) | (with_reducible refine (tickVectorS_t _ _ _ _ _ _ H.out HZ.out _).mono ?_) | (with_reducible refine (tickVectorS_z _ _ _ _ _ _ H.out HZ.out _).mono ?_)); rintro e w' ⟨rfl, hx⟩; obtain ⟨g, rfl⟩ := hx))
    go_ret
    exact ⟨rfl, (by repeat (first | exact Ex.refl _ | apply Ex.plus | apply Ex.alloc | apply Ex.drew))⟩

end Go.Proofs.Ytlpipllhbobfbaa

