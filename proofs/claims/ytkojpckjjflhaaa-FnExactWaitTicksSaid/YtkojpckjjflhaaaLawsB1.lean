/- The walks of the laws over a token bucket. -/
import Derived.Test.YtkojpckjjflhaaaRows
import Derived.Test.YtkojpckjjflhaaaBuck
import Derived.Test.YtkojpckjjflhaaaRep
namespace Go.Proofs.Ytkojpckjjflhaaa
open Go.RowKit
set_option linter.unusedVariables false

set_option maxHeartbeats 400000 in
theorem toBucket_any (x_Rate : Int) (x_Burst : Int) (x_Tokens : Int) (w : World) :
    Calls Try.prog 14 #[.agg #[.int .i64 x_Rate, .int .i64 x_Burst, .int .i64 x_Tokens]] w fun e w' => e = .returned (.agg #[.int .i64 x_Rate, .int .i64 x_Burst, .int .i64 x_Tokens]) ∧ Ex w w' := by
  go_enter Try.func14, Try.ntmps14
  go_wp2
  refine bodyPost_ret (v := .agg #[.int .i64 x_Rate, .int .i64 x_Burst, .int .i64 x_Tokens]) (by simp [results, Try.results14, go_sem]) rfl ⟨rfl, ?_⟩
  exact (((Ex.refl _).alloc _).alloc _).alloc _

set_option maxHeartbeats 400000 in
theorem walk_FnExactWaitTicks (w : World) (aB_Rate : Int) (haB_Rate : i64ok aB_Rate) (aB_Burst : Int) (haB_Burst : i64ok aB_Burst) (aB_Tokens : Int) (haB_Tokens : i64ok aB_Tokens) (aN : Int) (haN : i64ok aN) :
    Calls Try.prog 10 #[.agg #[.int .i64 aB_Rate, .int .i64 aB_Burst, .int .i64 aB_Tokens], .int .i64 aN] w fun e w' => e = .returned (.bool true) ∧ Ex w w' := by
  go_enter Try.func10, Try.ntmps10
  go_wp2_with (first
        | (go_at_call 14; (with_reducible refine (toBucket_any _ _ _ _).mono ?_); rintro e w' ⟨rfl, hx⟩; obtain ⟨g, rfl⟩ := hx)
        | (go_at_call 34; (with_reducible refine (waitS_any _ _ _ _ _).mono ?_); rintro e w' ⟨rfl, hx⟩; obtain ⟨g, rfl⟩ := hx)
        | (go_at_call 35; (with_reducible refine (wait_any _ _ _ _ _).mono ?_); rintro e w' ⟨rfl, hx⟩; obtain ⟨g, rfl⟩ := hx))
  go_ret
  exact ⟨rfl, (by repeat (first | exact Ex.refl _ | apply Ex.plus | apply Ex.alloc | apply Ex.drew))⟩

end Go.Proofs.Ytkojpckjjflhaaa

