/- big and at of the laws. -/
import Derived.Test.YtigepcpmdhcenaaRows
import Derived.Test.YtigepcpmdhcenaaCur
namespace Go.Proofs.Ytigepcpmdhcenaa
open Go.RowKit
set_option linter.unusedVariables false
set_option linter.unusedSimpArgs false

set_option maxHeartbeats 1000000 in
theorem big_v (v : Value) (code : List UInt8) (w : World) (k1 : Holds w code [v]) {q : Bool} (hq : decide (1048576 < code.length) = q) :
    Calls Try.prog 5 #[v] w fun e w' => e = .returned (.bool q) ∧ w = w' := by
  obtain ⟨a, cap, hv, h1, h2, h3⟩ := k1.bytes
  simp only [List.cons.injEq, and_true] at hv
  subst hv
  unfold maxLen at h2
  clear h3
  go_enter Try.func5, Try.ntmps5
  go_wp2
  go_ret
  exact ⟨ret_bool (by rw [← hq, Bool.eq_iff_iff]; simp; omega), rfl⟩

end Go.Proofs.Ytigepcpmdhcenaa
