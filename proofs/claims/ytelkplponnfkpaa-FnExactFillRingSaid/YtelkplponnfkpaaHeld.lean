/- heldIntS. -/
import Derived.Test.YtelkplponnfkpaaRows
import Derived.Test.YtelkplponnfkpaaMark
namespace Go.Proofs.Ytelkplponnfkpaa
open Go.RowKit
set_option linter.unusedVariables false


set_option maxHeartbeats 1000000 in
theorem heldIntS_any (v : Value) (n : Nat) (k : Int) (w : World) (k1 : Holds w (marks n k) [v]) (h0 : 0 ≤ k) (h1 : k + n ≤ 4611686018427387904) :
    Calls Try.prog 108 #[v, .int .i64 k] w fun e w' => e = .returned (.int .i64 (k + n)) ∧ w = w' := by
  obtain ⟨a, cap, hv, m1, m2, m3, _⟩ := k1.ints
  simp only [List.cons.injEq, and_true] at hv
  subst hv
  rw [marks_length] at m1 ⊢
  unfold maxLen at m2
  clear k1
  go_enter Try.func108, Try.ntmps108
  go_wp2
  go_loop [1, 5] (fun q i => ∃ j : Nat, j ≤ n ∧ q = .int .i64 (k + j) ∧ i = .int .i64 j) (fun _ i => n - (intOf i).toNat)
  case atStart => exact ⟨0, Nat.zero_le _, by simp, rfl⟩
  case round =>
    obtain ⟨j, hj, rfl, rfl⟩ := hrel
    by_cases hlt : j < n
    · obtain ⟨b, off, rfl, hc⟩ := m3 j (by rw [marks_length]; exact hlt)
      rw [marks_get] at hc
      clear m3
      go_wp2
      go_round
      case rel => exact ⟨j + 1, by omega, by go_num, by go_num⟩
      case measure => simp [intOf]; omega
    · obtain rfl : j = n := by omega
      clear m3
      go_wp2
      go_ret
      exact ⟨rfl, rfl⟩

end Go.Proofs.Ytelkplponnfkpaa
