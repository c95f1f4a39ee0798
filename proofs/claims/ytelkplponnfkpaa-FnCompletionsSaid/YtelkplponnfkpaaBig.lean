/- big and at of the laws. -/
import Derived.Test.YtelkplponnfkpaaRows
import Derived.Test.YtelkplponnfkpaaCur
namespace Go.Proofs.Ytelkplponnfkpaa
open Go.RowKit
set_option linter.unusedVariables false
set_option linter.unusedSimpArgs false

set_option maxHeartbeats 1000000 in
theorem big_v (v : Value) (code : List UInt8) (w : World) (k1 : Holds w code [v]) {q : Bool} (hq : decide (1048576 < code.length) = q) :
    Calls Try.prog 9 #[v] w fun e w' => e = .returned (.bool q) ∧ w = w' := by
  obtain ⟨a, cap, hv, h1, h2, h3⟩ := k1.bytes
  simp only [List.cons.injEq, and_true] at hv
  subst hv
  unfold maxLen at h2
  clear h3
  go_enter Try.func9, Try.ntmps9
  go_wp2
  go_ret
  exact ⟨ret_bool (by rw [← hq, Bool.eq_iff_iff]; simp; omega), rfl⟩

set_option maxHeartbeats 1000000 in
theorem at_any (v : Value) (code : List UInt8) (i : Int) (w : World) (k1 : Holds w code [v]) (h0 : 0 ≤ i) (hi : i ≤ 100000) :
    Calls Try.prog 12 #[v, .int .i64 i] w fun e w' => ∃ r : Int, 0 ≤ r ∧ r ≤ 255 ∧ e = .returned (.int .i64 r) ∧ w = w' := by
  obtain ⟨a, cap, hv, h1, h2, h3⟩ := k1.bytes
  simp only [List.cons.injEq, and_true] at hv
  subst hv
  unfold maxLen at h2
  by_cases hl : code.length = 0
  · clear h3
    have b0 : ((code.length : Int) == 0) = true := beq_iff_eq.2 (by omega)
    have HL := hid hl
    clear hl
    go_enter Try.func12, Try.ntmps12
    go_wp2
    go_ret
    exact ⟨0, by omega, by omega, rfl, rfl⟩
  · have b0 : ((code.length : Int) == 0) = false := beq_eq_false_iff_ne.2 (by omega)
    have p0 : (0 : Int) < code.length := by omega
    have q0 : 0 ≤ (i * 5 + 1) % (code.length : Int) := Int.emod_nonneg _ (by omega)
    have q1 : (i * 5 + 1) % (code.length : Int) < code.length := Int.emod_lt_of_pos _ p0
    obtain ⟨k, hk⟩ := Int.eq_ofNat_of_zero_le q0
    have hlt : k < code.length := by omega
    obtain ⟨b, off, rfl, hc⟩ := h3 k hlt
    have hy := code[k].toNat_lt
    generalize code[k] = y at *
    clear h3
    go_enter Try.func12, Try.ntmps12
    go_wp2
    go_ret
    exact ⟨y.toNat, by omega, by omega, rfl, rfl⟩

end Go.Proofs.Ytelkplponnfkpaa
