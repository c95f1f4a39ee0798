/- Picks of the cursor: l01PickInt; literal lists. -/
import Derived.Test.YtelkplponnfkpaaRows
import Derived.Test.YtelkplponnfkpaaCur
namespace Go.Proofs.Ytelkplponnfkpaa
open Go.RowKit
set_option linter.unusedVariables false

theorem _root_.Go.holds_lit {w : World} {A : Nat} {E : TypeId} {fr : Nat × Nat} (xs : List Int) (h : w.heap[A]? = some (.cells (xs.map (Value.int .i64)).toArray E fr)) (hok : ∀ x ∈ xs, i64ok x) (hm : xs.length ≤ maxLen) :
    Holds w xs [.slice (some ⟨A, 0, none⟩) xs.length xs.length] := by
  by_cases h0 : xs.length = 0
  · exact ⟨[], _, _, rfl, Nat.le_refl _, hm, .inl ⟨h0, rfl⟩⟩
  · refine ⟨A :: (List.range xs.length).flatMap fun _ => [], _, _, rfl, Nat.le_refl _, hm, .inr ⟨A, 0, _, E, fr, fun i => [.int .i64 (xs.getD i 0)], fun _ => [], rfl, by omega, h, by simp [Rep.size], rfl, fun i hi => ⟨⟨by simp [List.getD, List.getElem?_eq_getElem hi], rfl, hok _ (List.getElem_mem hi)⟩, fun j hj => ?_⟩⟩⟩
    obtain rfl : j = 0 := by simp [Rep.size] at hj; exact hj
    simp [Rep.size, List.getD, List.getElem?_eq_getElem hi]
theorem _root_.Go.holds_litN {w : World} {A n : Nat} {C : Array Value} {E : TypeId} {fr : Nat × Nat} (xs : List Int) (h : w.heap[A]? = some (.cells C E fr)) (hC : C = (xs.map (Value.int .i64)).toArray) (hn : n = xs.length) (hok : ∀ x ∈ xs, i64ok x) (hm : xs.length ≤ maxLen) :
    Holds w xs [.slice (some ⟨A, 0, none⟩) n n] := by subst hn; subst hC; exact holds_lit xs h hok hm

set_option maxHeartbeats 1000000 in
theorem l01PickInt_any (B : Nat) (v : Value) (code : List UInt8) (lv : Value) (xs : List Int) (lo hi : Int) (w0 w : World) (hcu : Cu 148 w0 B v code w) (k2 : Holds w xs [lv]) (hne : ∀ b ∈ lv.blk, b ≠ B) (h1 : 1 ≤ xs.length) (h2 : xs.length ≤ 1000000)
    (hb : ∀ x ∈ xs, lo ≤ x ∧ x ≤ hi) : Calls Try.prog 114 #[.pointer (some ⟨B, 0, none⟩), lv] w (DrawnN 148 B v code.length lo hi w) := by
  obtain ⟨a, cap, hv, m1, m2, m3, _⟩ := k2.ints
  simp only [List.cons.injEq, and_true] at hv
  subst hv
  unfold maxLen at m2
  have lB := hcu.lt
  have M3 := hid m3
  have HB := hid hb
  have HN := hid hne
  clear m3 hb hne k2
  go_enter Try.func114, Try.ntmps114
  go_wp2_with fail
  (with_reducible refine (l01Below_any B v code _ w0 _ hcu (by omega) (by omega)).mono ?_); rintro e w' ⟨r, i, h, g, r0, r1, i0, i1, rfl, rfl⟩
  obtain ⟨k, rfl⟩ := Int.eq_ofNat_of_zero_le r0
  have hk : k < xs.length := by omega
  obtain ⟨b, off, rfl, hc⟩ := M3.out k hk
  have hbB : b ≠ B := HN.out b (by simp [Value.blk])
  have lb : b < w.heap.size := World.block_lt_of_cell? _ _ hc
  have hx := HB.out _ (List.getElem_mem hk)
  generalize xs[k] = y at *
  go_wp2
  go_ret
  exact ⟨y, i, h, g, hx.1, hx.2, i0, i1, rfl, rfl⟩

end Go.Proofs.Ytelkplponnfkpaa
