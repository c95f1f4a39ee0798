/- The walks of the laws over a token bucket. -/
import Derived.Test.YtlpipllhbobfbaaRows
import Derived.Test.YtlpipllhbobfbaaBuck
import Derived.Test.YtlpipllhbobfbaaRep
namespace Go.Proofs.Ytlpipllhbobfbaa
open Go.RowKit
set_option linter.unusedVariables false

set_option maxHeartbeats 400000 in
theorem toBucket_any (x_Rate : Int) (x_Burst : Int) (x_Tokens : Int) (w : World) :
    Calls Try.prog 29 #[.agg #[.int .i64 x_Rate, .int .i64 x_Burst, .int .i64 x_Tokens]] w fun e w' => e = .returned (.agg #[.int .i64 x_Rate, .int .i64 x_Burst, .int .i64 x_Tokens]) ∧ Ex w w' := by
  go_enter Try.func29, Try.ntmps29
  go_wp2
  refine bodyPost_ret (v := .agg #[.int .i64 x_Rate, .int .i64 x_Burst, .int .i64 x_Tokens]) (by simp [results, Try.results29, go_sem]) rfl ⟨rfl, ?_⟩
  exact (((Ex.refl _).alloc _).alloc _).alloc _

end Go.Proofs.Ytlpipllhbobfbaa

