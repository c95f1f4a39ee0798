/- The law helpers over slices of slices of numbers. -/
import Derived.Test.YtpnhoallpaanoaaFill
import Derived.Test.YtpnhoallpaanoaaInts
import Derived.Test.YtpnhoallpaanoaaReg
namespace Go.Proofs.Ytpnhoallpaanoaa
open Go.RowKit
set_option linter.unusedVariables false

def tot : List (List Int) → Nat
  | [] => 0
  | x :: l => x.length + tot l
def pre : List (List Int) → Nat → Nat
  | _, 0 => 0
  | [], _ + 1 => 0
  | x :: l, k + 1 => x.length + pre l k
theorem pre_zero : ∀ l : List (List Int), pre l 0 = 0
  | [] => rfl
  | _ :: _ => rfl
theorem pre_succ : ∀ (l : List (List Int)) (k : Nat) (h : k < l.length), pre l (k + 1) = pre l k + (l[k]'h).length
  | x :: l, 0, _ => by simp [pre, pre_zero]
  | x :: l, k + 1, h => by
    have := pre_succ l k (by simpa using h)
    show x.length + pre l (k + 1) = x.length + pre l k + (l[k]'(by simpa using h)).length
    omega
theorem pre_all : ∀ l : List (List Int), pre l l.length = tot l
  | [] => rfl
  | x :: l => by show x.length + pre l l.length = x.length + tot l; rw [pre_all l]
theorem pre_le : ∀ (l : List (List Int)) (k : Nat), pre l k ≤ tot l
  | [], 0 => Nat.le_refl _
  | [], _ + 1 => Nat.le_refl _
  | _ :: _, 0 => Nat.zero_le _
  | x :: l, k + 1 => by have := pre_le l k; show x.length + pre l k ≤ x.length + tot l; omega
theorem len_le_tot : ∀ (l : List (List Int)), ∀ x ∈ l, x.length ≤ tot l
  | y :: l, x, h => by
    show x.length ≤ y.length + tot l
    rcases List.mem_cons.1 h with rfl | h
    · omega
    · have := len_le_tot l x h; omega

set_option maxHeartbeats 1000000 in
theorem szIntSS_any (v : Value) (xs : List (List Int)) (l : Int) (w : World) (k1 : Holds w xs [v]) (h0 : 0 ≤ l) (hl : l ≤ 1048576) {r : Int} (hr : r = if (xs.length : Int) + tot xs ≤ l then l - ((xs.length : Int) + tot xs) else -1) :
    Calls Try.prog 59 #[v, .int .i64 l] w fun e w' => e = .returned (.int .i64 r) ∧ w = w' := by
  obtain ⟨a, cap, hv, h1, h2, h3⟩ := k1.slices
  simp only [List.cons.injEq, and_true] at hv
  subst hv
  unfold maxLen at h2

  clear k1
  by_cases hn : (xs.length : Int) ≤ l
  case neg =>
    obtain rfl : r = -1 := by rw [hr, if_neg (by omega)]
    clear h3 hr
    go_enter Try.func59, Try.ntmps59
    go_wp2
    go_ret
    exact ⟨rfl, rfl⟩
  have HR := hid hr
  clear hr
  go_enter Try.func59, Try.ntmps59
  go_wp2
  go_loop [1, 5] (fun q i => ∃ k : Nat, k ≤ xs.length ∧ i = .int .i64 k ∧ q = .int .i64 (l - xs.length - pre xs k) ∧ (xs.length : Int) + pre xs k ≤ l) (fun _ i => xs.length - (intOf i).toNat)
  case atStart => exact ⟨0, Nat.zero_le _, rfl, by simp [pre_zero], by simp [pre_zero]; omega⟩
  case round =>
    obtain ⟨k, hk, rfl, rfl, hb⟩ := hrel
    by_cases hlt : k < xs.length
    · obtain ⟨b, off, a', cap', rfl, hc, hh⟩ := h3 k hlt
      have hp := pre_succ xs k hlt
      have ht := pre_le xs (k + 1)
      clear h3
      generalize hy : xs[k] = y at *
      by_cases hq : (y.length : Int) ≤ l - xs.length - pre xs k
      · go_wp2_with ((go_at_call 60; (with_reducible refine (szIntS_le _ y _ _ hh (by omega) (by omega)).mono ?_); rintro e w' ⟨rfl, rfl⟩))
        go_round
        case rel => exact ⟨k + 1, by omega, by go_num, by rw [hp]; congr 1; omega, by rw [hp]; omega⟩
        case measure => simp [intOf]; omega
      · obtain rfl : r = -1 := by rw [HR.out, if_neg (by omega)]
        go_wp2_with ((go_at_call 60; (with_reducible refine (szIntS_gt _ y _ _ hh (by omega) (by omega) (by omega)).mono ?_); rintro e w' ⟨rfl, rfl⟩))
        go_ret
        exact ⟨rfl, rfl⟩
    · obtain rfl : k = xs.length := by omega
      rw [pre_all] at hb ⊢
      have hr := HR.out
      rw [if_pos hb] at hr
      subst hr
      clear h3
      go_wp2
      go_ret
      exact ⟨ret_int (by omega), rfl⟩

set_option maxHeartbeats 1000000 in
theorem toIntSS_any (v : Value) (xs : List (List Int)) (w : World) (k1 : Holds w xs [v]) (hl : xs.length ≤ 1099511627776) (hi : ∀ x ∈ xs, x.length ≤ 1099511627776) :
    Calls Try.prog 63 #[v] w (RetSl w xs) := by
  obtain ⟨a, cap, hv, h1, h2, h3⟩ := k1.slices
  simp only [List.cons.injEq, and_true] at hv
  subst hv
  unfold maxLen at h2

  clear k1
  have hmk := fun kl kc => run_make_row' (P := Try.prog) 36 24 (.slice none 0 0) 24 Try.underlying36 (by kernel_rfl) rfl kl kc xs.length (by omega) (by omega)
  go_enter Try.func63, Try.ntmps63
  go_wp2
  have h0 : ((w.alloc (.cells (madeCells #[.slice none 0 0] xs.length) 24)).heap[w.heap.size]? = some (.cells (madeCells #[.slice none 0 0] xs.length) 24 (0, 0))) := row_alloc _ _
  go_loopw [4] (fun i wr => ∃ k : Nat, k ≤ xs.length ∧ i = .int .i64 k ∧ Ex w wr ∧ ∃ C, wr.heap[w.heap.size]? = some (.cells C 24 (0, 0)) ∧ C.size = xs.length ∧ Filled w.heap.size wr xs k C) (fun i _ => xs.length - (intOf i).toNat)
  case atStart => exact ⟨0, Nat.zero_le _, rfl, (Ex.refl _).alloc _, _, h0, size_madeCells _ _, Filled.zero _ _ _ _⟩
  case round =>
    obtain ⟨k, hk, rfl, hx, C, hB, hs, hC⟩ := hrel
    by_cases hlt : k < xs.length
    · obtain ⟨b, off, a', cap', rfl, hc, hh⟩ := h3 k hlt
      have hc' := (hx.cell (World.block_lt_of_cell? _ _ hc)).trans hc
      have hh' := hh.ex hx
      have hi' := hi _ (List.getElem_mem hlt)
      have hlB := row_lt hB
      have hst : wr.cell? ⟨w.heap.size, k, none⟩ = some (C[k]'(by omega)) := by rw [cell_row hB]; simp
      have hfz : wr.frozen? ⟨w.heap.size, k, none⟩ = false := frozen_row hB k
      have HX := hid hx
      have HB := hid hB
      have HC := hid hC
      have HT := hid hlt
      clear hx hB hC h3 h0 hmk hh hi hc
      go_wp2_with ((go_at_call 64; (with_reducible refine (toIntS_any _ xs[k] _ hh' hi').mono ?_); rintro e w' ⟨a1, c1, rfl, ho, hxx⟩; have HO := hid ho; clear ho; obtain ⟨g, rfl⟩ := hxx))
      go_roundw
      case rel =>
        rw [← World.setCell_plus wr g w.heap.size k _ hlB]
        refine ⟨k + 1, by omega, by go_num, (HX.out.plus _).setCell (Nat.le_refl _) _, _, row_setCell ((Ex.refl _).plus g |>.row HB.out) _ _, by simpa using hs, ?_⟩
        exact HC.out.step HT.out hlB ((Ex.refl _).plus _) HO.out (by omega)
      case measure => simp [intOf]; omega
    · go_wp2
      go_ret
      obtain rfl : k = xs.length := by omega
      exact ⟨_, _, rfl, hC.owns rfl hB hs (Nat.le_refl _) (by unfold maxLen; omega), hx⟩

set_option maxHeartbeats 1000000 in
theorem eqIntSS_same (v1 v2 : Value) (xs : List (List Int)) (w : World) (k1 : Holds w xs [v1]) (k2 : Holds w xs [v2]) :
    Calls Try.prog 67 #[v1, v2] w fun e w' => e = .returned (.bool true) ∧ Ex w w' := by
  obtain ⟨a, cap, hv, h1, h2, h3⟩ := k1.slices
  obtain ⟨a', cap', hv', h1', h2', h3'⟩ := k2.slices
  simp only [List.cons.injEq, and_true] at hv hv'
  subst hv hv'
  unfold maxLen at h2
  clear k1 k2
  go_enter Try.func67, Try.ntmps67
  go_wp2
  go_loopw [5] (fun i wr => ∃ k : Nat, k ≤ xs.length ∧ i = .int .i64 k ∧ Ex w wr) (fun i _ => xs.length - (intOf i).toNat)
  case atStart => exact ⟨0, Nat.zero_le _, rfl, Ex.refl _⟩
  case round =>
    obtain ⟨k, hk, rfl, hx⟩ := hrel
    by_cases hlt : k < xs.length
    · obtain ⟨b, off, a3, c3, rfl, hc, hh⟩ := h3 k hlt
      obtain ⟨b', off', a4, c4, rfl, hc', hh'⟩ := h3' k hlt
      have c1 := (hx.cell (World.block_lt_of_cell? _ _ hc)).trans hc
      have c2 := (hx.cell (World.block_lt_of_cell? _ _ hc')).trans hc'
      have j1 := hh.ex hx
      have j2 := hh'.ex hx
      have HX := hid hx
      have HT := hid hlt
      generalize hy : xs[k] = y at *
      clear hx h3 h3' hc hc' hh hh' hy
      go_wp2
      refine wp_region_ext (by kernel_rfl) (by kernel_rfl) ?_
      obtain ⟨l1, l2⟩ := (⟨World.block_lt_of_cell? _ _ c1, World.block_lt_of_cell? _ _ c2⟩ : b < wr.heap.size ∧ b' < wr.heap.size)
      repeat (go_big_quiet_step ((first | (go_at_call 36; first | exact Calls.ext_of (eqIntS_same _ _ y _ (j1.ex (by repeat (first | exact Ex.refl _ | apply Ex.plus_add | apply Ex.plus_drew | apply Ex.plus | apply Ex.alloc | apply Ex.drew))) (j2.ex (by repeat (first | exact Ex.refl _ | apply Ex.plus_add | apply Ex.plus_drew | apply Ex.plus | apply Ex.alloc | apply Ex.drew)))) | exact Calls.ext_of2 (eqIntS_same _ _ y _ (j1.ex (by repeat (first | exact Ex.refl _ | apply Ex.plus_add | apply Ex.plus_drew | apply Ex.plus | apply Ex.alloc | apply Ex.drew))) (j2.ex (by repeat (first | exact Ex.refl _ | apply Ex.plus_add | apply Ex.plus_drew | apply Ex.plus | apply Ex.alloc | apply Ex.drew))))))))
      refine wpQuiet_nil ?_
      intro g
      go_wp2
      go_roundw
      case rel => exact ⟨k + 1, by omega, by go_num, HX.out.plus _⟩
      case measure => simp [intOf]; omega
    · clear h3 h3'
      go_wp2
      go_ret
      exact ⟨rfl, hx⟩

end Go.Proofs.Ytpnhoallpaanoaa
