/- The law helpers over []int: toIntS, eqIntS, szIntS, markIntS, heldIntS. -/
import Derived.Test.YtihgekgkonacfaaRows
import Derived.Test.YtihgekgkonacfaaSl
namespace Go.Proofs.Ytihgekgkonacfaa
open Go.RowKit
set_option linter.unusedVariables false

set_option maxHeartbeats 400000 in
theorem toIntS_any (v : Value) (xs : List Int) (w : World) (h : Holds w xs [v]) (hl : xs.length ≤ 1099511627776) :
    Calls Try.prog 33 #[v] w (RetSl w xs) := by
  obtain ⟨a, cap, hv, h1, h2, h3, h4⟩ := h.ints
  simp only [List.cons.injEq, and_true] at hv
  subst hv
  have hmk := fun kl kc => run_make_row' (P := Try.prog) 28 3 (.int .i64 0) 8 Try.underlying28 (by kernel_rfl) rfl kl kc xs.length (by omega) (by omega)
  go_enter Try.func33, Try.ntmps33
  go_wp2
  have h0 : ((w.alloc (.cells (madeCells #[.int .i64 0] xs.length) 3)).heap[w.heap.size]? = some (.cells (madeCells #[.int .i64 0] xs.length) 3 (0, 0))) := row_alloc _ _
  go_loopw [4] (fun i wr => ∃ k : Nat, k ≤ xs.length ∧ i = .int .i64 k ∧ Ex w wr ∧ ∃ C, wr.heap[w.heap.size]? = some (.cells C 3 (0, 0)) ∧ C.size = xs.length ∧ ∀ j (hj : j < xs.length), j < k → C[j]? = some (.int .i64 (xs[j]'hj))) (fun i _ => xs.length - (intOf i).toNat)
  case atStart => exact ⟨0, Nat.zero_le _, rfl, (Ex.refl _).alloc _, _, h0, size_madeCells _ _, fun j _ hj => by omega⟩
  case round =>
    obtain ⟨k, hk, rfl, hx, C, hB, hs, hC⟩ := hrel
    by_cases hlt : k < xs.length
    · obtain ⟨b, off, rfl, hc⟩ := h3 k hlt
      have hc' := (hx.cell (World.block_lt_of_cell? _ _ hc)).trans hc
      have hst : wr.cell? ⟨w.heap.size, k, none⟩ = some (C[k]'(by omega)) := by rw [cell_row hB]; simp
      have hfz : wr.frozen? ⟨w.heap.size, k, none⟩ = false := frozen_row hB k
      have HX := hid hx
      have HB := hid hB
      have HC := hid hC
      clear hx hB hC h3 h0 hmk h4
      go_wp2
      go_roundw
      case rel =>
        refine ⟨k + 1, by omega, by go_num, HX.out.setCell (Nat.le_refl _) _, _, row_setCell HB.out _ _, by simpa using hs, fun j hj hjk => ?_⟩
        by_cases e : j = k
        · subst e; rw [Array.getElem?_setIfInBounds]; simp; omega
        · rw [Array.getElem?_setIfInBounds, if_neg (fun h => e h.symm)]; exact HC.out j hj (by omega)
      case measure => simp [intOf]; omega
    · go_wp2
      go_ret
      obtain rfl : k = xs.length := by omega
      exact ⟨_, _, rfl, owns_ints hB (Nat.le_refl _) (Nat.le_refl _) (by omega) (by omega) (fun j hj => hC j hj hj) h4, hx⟩

set_option maxHeartbeats 400000 in
theorem eqIntS_same (v1 v2 : Value) (xs : List Int) (w : World) (k1 : Holds w xs [v1]) (k2 : Holds w xs [v2]) :
    Calls Try.prog 36 #[v1, v2] w fun e w' => e = .returned (.bool true) ∧ Ex w w' := by
  obtain ⟨a, cap, hv, h1, h2, h3, h4⟩ := k1.ints
  obtain ⟨a', cap', hv', h1', h2', h3', _⟩ := k2.ints
  simp only [List.cons.injEq, and_true] at hv hv'
  subst hv hv'
  unfold maxLen at h2
  clear k1 k2
  go_enter Try.func36, Try.ntmps36
  go_wp2
  go_loopw [5] (fun i wr => ∃ k : Nat, k ≤ xs.length ∧ i = .int .i64 k ∧ Ex w wr) (fun i _ => xs.length - (intOf i).toNat)
  case atStart => exact ⟨0, Nat.zero_le _, rfl, Ex.refl _⟩
  case round =>
    obtain ⟨k, hk, rfl, hx⟩ := hrel
    by_cases hlt : k < xs.length
    · obtain ⟨b, off, rfl, hc⟩ := h3 k hlt
      obtain ⟨b', off', rfl, hc'⟩ := h3' k hlt
      have c1 := (hx.cell (World.block_lt_of_cell? _ _ hc)).trans hc
      have c2 := (hx.cell (World.block_lt_of_cell? _ _ hc')).trans hc'
      have HX := hid hx
      clear hx h3 h3' h4 hc hc'
      go_wp2
      refine wp_region_ext (by kernel_rfl) (by kernel_rfl) ?_
      obtain ⟨l1, l2⟩ := (⟨World.block_lt_of_cell? _ _ c1, World.block_lt_of_cell? _ _ c2⟩ : b < wr.heap.size ∧ b' < wr.heap.size)
      repeat (go_big_quiet_step (fail))
      refine wpQuiet_nil ?_
      intro g
      go_wp2
      go_roundw
      case rel => exact ⟨k + 1, by omega, by go_num, HX.out.plus _⟩
      case measure => simp [intOf]; omega
    · go_wp2
      go_ret
      exact ⟨rfl, hx⟩

set_option maxHeartbeats 400000 in
theorem szIntS_le (v : Value) (xs : List Int) (l : Int) (w : World) (k1 : Holds w xs [v]) (hl : l ≤ 1048576) (h : (xs.length : Int) ≤ l) :
    Calls Try.prog 30 #[v, .int .i64 l] w fun e w' => e = .returned (.int .i64 (l - xs.length)) ∧ w = w' := by
  obtain ⟨a, cap, hv, h1, h2, h3, h4⟩ := k1.ints
  simp only [List.cons.injEq, and_true] at hv
  subst hv
  unfold maxLen at h2
  clear k1 h3 h4
  go_enter Try.func30, Try.ntmps30
  go_wp2
  go_ret
  exact ⟨rfl, rfl⟩
set_option maxHeartbeats 400000 in
theorem szIntS_gt (v : Value) (xs : List Int) (l : Int) (w : World) (k1 : Holds w xs [v]) (h0 : 0 ≤ l) (hl : l ≤ 1048576) (h : l < (xs.length : Int)) :
    Calls Try.prog 30 #[v, .int .i64 l] w fun e w' => e = .returned (.int .i64 (-1)) ∧ w = w' := by
  obtain ⟨a, cap, hv, h1, h2, h3, h4⟩ := k1.ints
  simp only [List.cons.injEq, and_true] at hv
  subst hv
  unfold maxLen at h2
  clear k1 h3 h4
  go_enter Try.func30, Try.ntmps30
  go_wp2
  go_ret
  exact ⟨rfl, rfl⟩
end Go.Proofs.Ytihgekgkonacfaa
