/- ServedBytes, the program's and the reference's, and the law. -/
import Derived.Test.YtigepcpmdhcenaaRows
import Derived.Test.YtigepcpmdhcenaaInts
namespace Go.Proofs.Ytigepcpmdhcenaa
open Go.RowKit
set_option linter.unusedVariables false

def servedV (qs ls : List Int) (q : Int) : Nat → Int
  | 0 => 0
  | k + 1 => if qs.getD k 0 = q then wrap64 (servedV qs ls q k + ls.getD k 0) else servedV qs ls q k

set_option maxHeartbeats 400000 in
theorem served_any (v1 v2 : Value) (qs ls : List Int) (q : Int) (w : World) (k1 : Holds w qs [v1]) (k2 : Holds w ls [v2]) :
    Calls Try.prog 8 #[v1, v2, .int .i64 q] w fun e w' => e = .returned (.int .i64 (servedV qs ls q (min qs.length ls.length))) ∧ Ex w w' := by
  obtain ⟨a, cap, hv, h1, h2, h3, h4⟩ := k1.ints
  obtain ⟨a', cap', hv', h1', h2', h3', _⟩ := k2.ints
  simp only [List.cons.injEq, and_true] at hv hv'
  subst hv hv'
  unfold maxLen at h2 h2'
  clear k1 k2
  go_enter Try.func8, Try.ntmps8
  go_wp2
  go_loop [7, 8] (fun n i => ∃ k : Nat, k ≤ qs.length ∧ k ≤ ls.length ∧ i = .int .i64 k ∧ n = .int .i64 (servedV qs ls q k)) (fun _ i => qs.length - (intOf i).toNat)
  case atStart => exact ⟨0, Nat.zero_le _, Nat.zero_le _, rfl, rfl⟩
  case round =>
    obtain ⟨k, hk, hk', rfl, rfl⟩ := hrel
    by_cases hlt : k < qs.length ∧ k < ls.length
    · obtain ⟨l1, l2⟩ := hlt
      obtain ⟨b, off, rfl, hc⟩ := h3 k l1
      obtain ⟨b', off', rfl, hc'⟩ := h3' k l2
      have s1 : servedV qs ls q (k + 1) = if qs[k] = q then wrap64 (servedV qs ls q k + ls[k]) else servedV qs ls q k := by
        rw [servedV]; simp [List.getD, List.getElem?_eq_getElem l1, List.getElem?_eq_getElem l2]
      replace s1 := hid s1
      clear h3 h3' h4
      by_cases hq : qs[k] = q
      · have hq' : (qs[k] == q) = true := by simpa using hq
        have HQ := hid hq
        clear hq
        go_wp2
        go_round
        case rel => exact ⟨k + 1, by omega, by omega, by go_num, by rw [s1.out, if_pos HQ.out]⟩
        case measure => simp [intOf]; omega
      · have hq' : (qs[k] == q) = false := by simpa using hq
        have HQ := hid hq
        clear hq
        go_wp2
        go_round
        case rel => exact ⟨k + 1, by omega, by omega, by go_num, by rw [s1.out, if_neg HQ.out]⟩
        case measure => simp [intOf]; omega
    · have e : min qs.length ls.length = k := by omega
      have E := hid e
      clear e
      by_cases l1 : k < qs.length
      · have l2 : ¬ k < ls.length := fun h => hlt ⟨l1, h⟩
        clear hlt
        go_wp2
        go_ret
        exact ⟨ret_int (by rw [E.out]), Ex.refl _⟩
      · clear hlt
        go_wp2
        go_ret
        exact ⟨ret_int (by rw [E.out]), Ex.refl _⟩

end Go.Proofs.Ytigepcpmdhcenaa
