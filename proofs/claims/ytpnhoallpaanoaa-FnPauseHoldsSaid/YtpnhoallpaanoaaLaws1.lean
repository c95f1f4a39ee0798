/- The walks of the first laws. -/
import Derived.Test.YtpnhoallpaanoaaRows
import Derived.Test.YtpnhoallpaanoaaScal
import Derived.Test.YtpnhoallpaanoaaVec
import Derived.Test.YtpnhoallpaanoaaRep
namespace Go.Proofs.Ytpnhoallpaanoaa
open Go.RowKit
set_option linter.unusedVariables false

def headroom (d r : Int) : Int := if inB d 1 8 && inB r 0 1000 then (2 * d + 1) * r else -1
theorem headroom_bd {d r : Int} (h1 : 1 ≤ d) (h2 : d ≤ 8) (h3 : 0 ≤ r) (h4 : r ≤ 1000) : 0 ≤ (2 * d + 1) * r ∧ (2 * d + 1) * r ≤ 17000 := by
  refine ⟨Int.mul_nonneg (by omega) h3, ?_⟩
  have h5 : (2 * d + 1) * r ≤ 17 * r := Int.mul_le_mul_of_nonneg_right (by omega) h3
  omega

set_option maxHeartbeats 400000 in
theorem headroom_any (d r : Int) (w : World) :
    Calls Try.prog 13 #[.int .i64 d, .int .i64 r] w fun e w' => e = .returned (.int .i64 (headroom d r)) ∧ w = w' := by
  cases h1 : inB d 1 8 <;> cases h2 : inB r 0 1000
  case' true.true =>
    obtain ⟨a1, a2⟩ := inB_iff.1 h1
    obtain ⟨a3, a4⟩ := inB_iff.1 h2
    obtain ⟨a5, a6⟩ := headroom_bd a1 a2 a3 a4
  all_goals
    have H1 := hid h1
    have H2 := hid h2
    clear h1 h2
    go_enter Try.func13, Try.ntmps13
    go_wp2_with (first
      | (go_at_call 52; (with_reducible refine (between_v H1.out _).mono ?_); rintro e w' ⟨rfl, rfl⟩)
      | (go_at_call 52; (with_reducible refine (between_v H2.out _).mono ?_); rintro e w' ⟨rfl, rfl⟩))
    go_ret
    exact ⟨ret_int (by simp [headroom, H1.out, H2.out]), rfl⟩

end Go.Proofs.Ytpnhoallpaanoaa
