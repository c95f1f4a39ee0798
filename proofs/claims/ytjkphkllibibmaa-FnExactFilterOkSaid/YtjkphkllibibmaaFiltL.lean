/- The law helpers over a Filter; the walk of FnExactFilterOk. -/
import Derived.Test.YtjkphkllibibmaaRows
import Derived.Test.YtjkphkllibibmaaFilt
import Derived.Test.YtjkphkllibibmaaReg
namespace Go.Proofs.Ytjkphkllibibmaa
open Go.RowKit
set_option linter.unusedVariables false

set_option maxHeartbeats 400000 in
theorem toFilter_any (mac : Int) (pr : Bool) (v : Value) (xs : List Int) (w : World) (k1 : Holds w xs [v]) (hl : xs.length ≤ 1099511627776) :
    Calls Try.prog 42 #[.agg #[.int .i64 mac, .bool pr, v]] w (RetFilter w mac pr xs) := by
  obtain ⟨a, cap, hv, h1, h2, _, h4⟩ := k1.ints
  simp only [List.cons.injEq, and_true] at hv
  subst hv

  go_enter Try.func42, Try.ntmps42
  go_wp2_with (go_at_call 75; (with_reducible refine (toIntS_any _ xs _ (k1.ex (by repeat (first | exact Ex.refl _ | apply Ex.plus_add | apply Ex.plus_drew | apply Ex.plus | apply Ex.alloc | apply Ex.drew))) hl).mono ?_); rintro e w' ⟨a1, c1, rfl, ho, hx⟩; obtain ⟨g, rfl⟩ := hx)
  refine bodyPost_ret (v := _) (by simp [results, Try.results42, go_sem] <;> rfl) rfl ⟨a1, c1, rfl, ?_, ?_⟩
  · exact (ho.agr (Agr.plus (by simp) (Nat.le_refl _))).lower (by simp; omega)
  · exact (by repeat (first | exact Ex.refl _ | apply Ex.plus_add | apply Ex.plus_drew | apply Ex.plus | apply Ex.alloc | apply Ex.drew))

set_option maxHeartbeats 400000 in
theorem eqFilter_same (mac : Int) (pr : Bool) (v1 v2 : Value) (xs : List Int) (w : World) (k1 : Holds w xs [v1]) (k2 : Holds w xs [v2]) :
    Calls Try.prog 44 #[.agg #[.int .i64 mac, .bool pr, v1], .agg #[.int .i64 mac, .bool pr, v2]] w fun e w' => e = .returned (.bool true) ∧ Ex w w' := by
  obtain ⟨a, cap, hv, _⟩ := k1.ints
  obtain ⟨a', cap', hv', _⟩ := k2.ints
  simp only [List.cons.injEq, and_true] at hv hv'
  subst hv hv'
  go_enter Try.func44, Try.ntmps44
  go_wp2_with (go_at_call 76; (with_reducible refine (eqIntS_same _ _ xs _ (k1.ex (by repeat (first | exact Ex.refl _ | apply Ex.plus_add | apply Ex.plus_drew | apply Ex.plus | apply Ex.alloc | apply Ex.drew))) (k2.ex (by repeat (first | exact Ex.refl _ | apply Ex.plus_add | apply Ex.plus_drew | apply Ex.plus | apply Ex.alloc | apply Ex.drew)))).mono ?_); rintro e w' ⟨rfl, hx⟩; obtain ⟨g, rfl⟩ := hx)
  go_ret
  exact ⟨rfl, (by repeat (first | exact Ex.refl _ | apply Ex.plus_add | apply Ex.plus_drew | apply Ex.plus | apply Ex.alloc | apply Ex.drew))⟩

set_option maxHeartbeats 400000 in
theorem szFilter_le (mac : Int) (pr : Bool) (v : Value) (xs : List Int) (l : Int) (w : World) (k1 : Holds w xs [v]) (hl : l ≤ 1048576) (h : (xs.length : Int) ≤ l) :
    Calls Try.prog 40 #[.agg #[.int .i64 mac, .bool pr, v], .int .i64 l] w fun e w' => e = .returned (.int .i64 (l - xs.length)) ∧ Ex w w' := by
  obtain ⟨a, cap, hv, h1, h2, _, h4⟩ := k1.ints
  simp only [List.cons.injEq, and_true] at hv
  subst hv

  go_enter Try.func40, Try.ntmps40
  go_wp2_with (go_at_call 74; (with_reducible refine (szIntS_le _ xs l _ (k1.ex (by repeat (first | exact Ex.refl _ | apply Ex.plus_add | apply Ex.plus_drew | apply Ex.plus | apply Ex.alloc | apply Ex.drew))) hl h).mono ?_); rintro e w' ⟨rfl, rfl⟩)
  go_ret
  exact ⟨rfl, (by repeat (first | exact Ex.refl _ | apply Ex.plus_add | apply Ex.plus_drew | apply Ex.plus | apply Ex.alloc | apply Ex.drew))⟩

set_option maxHeartbeats 400000 in
theorem szFilter_gt (mac : Int) (pr : Bool) (v : Value) (xs : List Int) (l : Int) (w : World) (k1 : Holds w xs [v]) (h0 : 0 ≤ l) (hl : l ≤ 1048576) (h : l < (xs.length : Int)) :
    Calls Try.prog 40 #[.agg #[.int .i64 mac, .bool pr, v], .int .i64 l] w fun e w' => e = .returned (.int .i64 (-1)) ∧ Ex w w' := by
  obtain ⟨a, cap, hv, h1, h2, _, h4⟩ := k1.ints
  simp only [List.cons.injEq, and_true] at hv
  subst hv

  go_enter Try.func40, Try.ntmps40
  go_wp2_with (go_at_call 74; (with_reducible refine (szIntS_gt _ xs l _ (k1.ex (by repeat (first | exact Ex.refl _ | apply Ex.plus_add | apply Ex.plus_drew | apply Ex.plus | apply Ex.alloc | apply Ex.drew))) h0 hl h).mono ?_); rintro e w' ⟨rfl, rfl⟩)
  go_ret
  exact ⟨rfl, (by repeat (first | exact Ex.refl _ | apply Ex.plus_add | apply Ex.plus_drew | apply Ex.plus | apply Ex.alloc | apply Ex.drew))⟩

set_option maxHeartbeats 1000000 in
theorem walk_FnExactFilterOk (w : World) (aF : Array Value) (aFD : Int × Bool × List Int) (haF : Holds w aFD aF.toList) :
    Calls Try.prog 11 #[.agg aF] w fun e w' => e = .returned (.bool true) ∧ Ex w w' := by
  obtain ⟨bs, hF⟩ := haF
  obtain ⟨mac, pr, xs⟩ := aFD
  obtain ⟨_, _, _, _, e1, _, ⟨rfl, _, hmac⟩, _, v3, _, b3, rfl, _, ⟨rfl, _⟩, hF⟩ := hF
  replace hF : Holds w xs v3 := ⟨_, hF⟩
  obtain ⟨a, cap, rfl, m1, m2, _⟩ := hF.ints
  unfold maxLen at m2
  obtain rfl : aF = #[.int .i64 mac, .bool pr, .slice a xs.length cap] := Array.toList_inj.1 e1
  clear e1

  rcases Nat.lt_or_ge 1048576 xs.length with l1 | l1
  · go_enter Try.func11, Try.ntmps11
    go_wp2_with (first
      | (go_at_call 42; (with_reducible refine (toFilter_any _ _ _ xs _ (hF.ex (by repeat (first | exact Ex.refl _ | apply Ex.plus_add | apply Ex.plus_drew | apply Ex.plus | apply Ex.alloc | apply Ex.drew))) (by omega)).mono ?_); rintro e w' ⟨a1, c1, rfl, ho, hx⟩; obtain ⟨g, rfl⟩ := hx)
      | (go_at_call 40; (first | (with_reducible refine (szFilter_le _ _ _ xs _ _ (hF.ex (by repeat (first | exact Ex.refl _ | apply Ex.plus_add | apply Ex.plus_drew | apply Ex.plus | apply Ex.alloc | apply Ex.drew))) (by omega) (by omega)).mono ?_) | (with_reducible refine (szFilter_gt _ _ _ xs _ _ (hF.ex (by repeat (first | exact Ex.refl _ | apply Ex.plus_add | apply Ex.plus_drew | apply Ex.plus | apply Ex.alloc | apply Ex.drew))) (by omega) (by omega) (by omega)).mono ?_)); rintro e w' ⟨rfl, hx⟩; obtain ⟨g, rfl⟩ := hx)
      | (go_at_call 41; (with_reducible refine (filterOkS_any _ _ _ xs _ (by refine Holds.ex (Owns.holds (by assumption)) ?_; (repeat (first | rw [World.plus_plus] | rw [World.plus_drew] | rw [World.drew_plus])); repeat (first | exact Ex.refl _ | apply Ex.plus_add | apply Ex.plus_drew | apply Ex.plus | apply Ex.alloc | apply Ex.drew))).mono ?_); rintro e w' ⟨rfl, hx⟩; obtain ⟨g, rfl⟩ := hx)
      | (go_at_call 43; (with_reducible refine (filterOk_any _ _ _ xs _ (by refine Holds.ex (Owns.holds (by assumption)) ?_; (repeat (first | rw [World.plus_plus] | rw [World.plus_drew] | rw [World.drew_plus])); repeat (first | exact Ex.refl _ | apply Ex.plus_add | apply Ex.plus_drew | apply Ex.plus | apply Ex.alloc | apply Ex.drew))).mono ?_); rintro e w' ⟨rfl, hx⟩; obtain ⟨g, rfl⟩ := hx)
      | (go_at_call 44; (with_reducible refine (eqFilter_same _ _ _ _ xs _ (by refine Holds.ex (Owns.holds (by assumption)) ?_; (repeat (first | rw [World.plus_plus] | rw [World.plus_drew] | rw [World.drew_plus])); repeat (first | exact Ex.refl _ | apply Ex.plus_add | apply Ex.plus_drew | apply Ex.plus | apply Ex.alloc | apply Ex.drew)) (by refine Holds.ex (Owns.holds (by assumption)) ?_; (repeat (first | rw [World.plus_plus] | rw [World.plus_drew] | rw [World.drew_plus])); repeat (first | exact Ex.refl _ | apply Ex.plus_add | apply Ex.plus_drew | apply Ex.plus | apply Ex.alloc | apply Ex.drew))).mono ?_); rintro e w' ⟨rfl, hx⟩; obtain ⟨g, rfl⟩ := hx))
    go_ret
    exact ⟨rfl, (by repeat (first | exact Ex.refl _ | apply Ex.plus_add | apply Ex.plus_drew | apply Ex.plus | apply Ex.alloc | apply Ex.drew))⟩
  · go_enter Try.func11, Try.ntmps11
    go_wp2_with (first
      | (go_at_call 42; (with_reducible refine (toFilter_any _ _ _ xs _ (hF.ex (by repeat (first | exact Ex.refl _ | apply Ex.plus_add | apply Ex.plus_drew | apply Ex.plus | apply Ex.alloc | apply Ex.drew))) (by omega)).mono ?_); rintro e w' ⟨a1, c1, rfl, ho, hx⟩; obtain ⟨g, rfl⟩ := hx)
      | (go_at_call 40; (first | (with_reducible refine (szFilter_le _ _ _ xs _ _ (hF.ex (by repeat (first | exact Ex.refl _ | apply Ex.plus_add | apply Ex.plus_drew | apply Ex.plus | apply Ex.alloc | apply Ex.drew))) (by omega) (by omega)).mono ?_) | (with_reducible refine (szFilter_gt _ _ _ xs _ _ (hF.ex (by repeat (first | exact Ex.refl _ | apply Ex.plus_add | apply Ex.plus_drew | apply Ex.plus | apply Ex.alloc | apply Ex.drew))) (by omega) (by omega) (by omega)).mono ?_)); rintro e w' ⟨rfl, hx⟩; obtain ⟨g, rfl⟩ := hx)
      | (go_at_call 41; (with_reducible refine (filterOkS_any _ _ _ xs _ (by refine Holds.ex (Owns.holds (by assumption)) ?_; (repeat (first | rw [World.plus_plus] | rw [World.plus_drew] | rw [World.drew_plus])); repeat (first | exact Ex.refl _ | apply Ex.plus_add | apply Ex.plus_drew | apply Ex.plus | apply Ex.alloc | apply Ex.drew))).mono ?_); rintro e w' ⟨rfl, hx⟩; obtain ⟨g, rfl⟩ := hx)
      | (go_at_call 43; (with_reducible refine (filterOk_any _ _ _ xs _ (by refine Holds.ex (Owns.holds (by assumption)) ?_; (repeat (first | rw [World.plus_plus] | rw [World.plus_drew] | rw [World.drew_plus])); repeat (first | exact Ex.refl _ | apply Ex.plus_add | apply Ex.plus_drew | apply Ex.plus | apply Ex.alloc | apply Ex.drew))).mono ?_); rintro e w' ⟨rfl, hx⟩; obtain ⟨g, rfl⟩ := hx)
      | (go_at_call 44; (with_reducible refine (eqFilter_same _ _ _ _ xs _ (by refine Holds.ex (Owns.holds (by assumption)) ?_; (repeat (first | rw [World.plus_plus] | rw [World.plus_drew] | rw [World.drew_plus])); repeat (first | exact Ex.refl _ | apply Ex.plus_add | apply Ex.plus_drew | apply Ex.plus | apply Ex.alloc | apply Ex.drew)) (by refine Holds.ex (Owns.holds (by assumption)) ?_; (repeat (first | rw [World.plus_plus] | rw [World.plus_drew] | rw [World.drew_plus])); repeat (first | exact Ex.refl _ | apply Ex.plus_add | apply Ex.plus_drew | apply Ex.plus | apply Ex.alloc | apply Ex.drew))).mono ?_); rintro e w' ⟨rfl, hx⟩; obtain ⟨g, rfl⟩ := hx))
    refine wp_region_mix [(0, true), (1, true), (2, false), (3, false), (4, false)] (by kernel_rfl) (by kernel_rfl) ?_
    first | refine wpMix_skip rfl rfl ?_ | (refine wpMix_early rfl rfl ?_; intro K hK; go_big_quiet_op; go_big_quiet_on)
    first | refine wpMix_skip rfl rfl ?_ | (refine wpMix_early rfl rfl ?_; intro K hK; go_big_quiet_op; go_big_quiet_on)
    first | refine wpMix_skip rfl rfl ?_ | (refine wpMix_forced rfl rfl ?_; intro K hK; go_simp; (try (first | (go_at_call 42; (with_reducible refine (toFilter_any _ _ _ xs _ (hF.ex (by repeat (first | exact Ex.refl _ | apply Ex.plus_add | apply Ex.plus_drew | apply Ex.plus | apply Ex.alloc | apply Ex.drew))) (by omega)).mono ?_); rintro e w' ⟨a1, c1, rfl, ho, hx⟩; obtain ⟨g, rfl⟩ := hx) | (go_at_call 40; (first | (with_reducible refine (szFilter_le _ _ _ xs _ _ (hF.ex (by repeat (first | exact Ex.refl _ | apply Ex.plus_add | apply Ex.plus_drew | apply Ex.plus | apply Ex.alloc | apply Ex.drew))) (by omega) (by omega)).mono ?_) | (with_reducible refine (szFilter_gt _ _ _ xs _ _ (hF.ex (by repeat (first | exact Ex.refl _ | apply Ex.plus_add | apply Ex.plus_drew | apply Ex.plus | apply Ex.alloc | apply Ex.drew))) (by omega) (by omega) (by omega)).mono ?_)); rintro e w' ⟨rfl, hx⟩; obtain ⟨g, rfl⟩ := hx) | (go_at_call 41; (with_reducible refine (filterOkS_any _ _ _ xs _ (by refine Holds.ex (Owns.holds (by assumption)) ?_; (repeat (first | rw [World.plus_plus] | rw [World.plus_drew] | rw [World.drew_plus])); repeat (first | exact Ex.refl _ | apply Ex.plus_add | apply Ex.plus_drew | apply Ex.plus | apply Ex.alloc | apply Ex.drew))).mono ?_); rintro e w' ⟨rfl, hx⟩; obtain ⟨g, rfl⟩ := hx) | (go_at_call 43; (with_reducible refine (filterOk_any _ _ _ xs _ (by refine Holds.ex (Owns.holds (by assumption)) ?_; (repeat (first | rw [World.plus_plus] | rw [World.plus_drew] | rw [World.drew_plus])); repeat (first | exact Ex.refl _ | apply Ex.plus_add | apply Ex.plus_drew | apply Ex.plus | apply Ex.alloc | apply Ex.drew))).mono ?_); rintro e w' ⟨rfl, hx⟩; obtain ⟨g, rfl⟩ := hx) | (go_at_call 44; (with_reducible refine (eqFilter_same _ _ _ _ xs _ (by refine Holds.ex (Owns.holds (by assumption)) ?_; (repeat (first | rw [World.plus_plus] | rw [World.plus_drew] | rw [World.drew_plus])); repeat (first | exact Ex.refl _ | apply Ex.plus_add | apply Ex.plus_drew | apply Ex.plus | apply Ex.alloc | apply Ex.drew)) (by refine Holds.ex (Owns.holds (by assumption)) ?_; (repeat (first | rw [World.plus_plus] | rw [World.plus_drew] | rw [World.drew_plus])); repeat (first | exact Ex.refl _ | apply Ex.plus_add | apply Ex.plus_drew | apply Ex.plus | apply Ex.alloc | apply Ex.drew))).mono ?_); rintro e w' ⟨rfl, hx⟩; obtain ⟨g, rfl⟩ := hx))); (try go_simp); refine hK _ _ (show Ex _ _ from (by repeat (first | exact Ex.refl _ | apply Ex.plus_add | apply Ex.plus_drew | apply Ex.plus | apply Ex.alloc | apply Ex.drew))) ?_; clear hK K)
    first | refine wpMix_skip rfl rfl ?_ | (refine wpMix_forced rfl rfl ?_; intro K hK; go_simp; (try (first | (go_at_call 42; (with_reducible refine (toFilter_any _ _ _ xs _ (hF.ex (by repeat (first | exact Ex.refl _ | apply Ex.plus_add | apply Ex.plus_drew | apply Ex.plus | apply Ex.alloc | apply Ex.drew))) (by omega)).mono ?_); rintro e w' ⟨a1, c1, rfl, ho, hx⟩; obtain ⟨g, rfl⟩ := hx) | (go_at_call 40; (first | (with_reducible refine (szFilter_le _ _ _ xs _ _ (hF.ex (by repeat (first | exact Ex.refl _ | apply Ex.plus_add | apply Ex.plus_drew | apply Ex.plus | apply Ex.alloc | apply Ex.drew))) (by omega) (by omega)).mono ?_) | (with_reducible refine (szFilter_gt _ _ _ xs _ _ (hF.ex (by repeat (first | exact Ex.refl _ | apply Ex.plus_add | apply Ex.plus_drew | apply Ex.plus | apply Ex.alloc | apply Ex.drew))) (by omega) (by omega) (by omega)).mono ?_)); rintro e w' ⟨rfl, hx⟩; obtain ⟨g, rfl⟩ := hx) | (go_at_call 41; (with_reducible refine (filterOkS_any _ _ _ xs _ (by refine Holds.ex (Owns.holds (by assumption)) ?_; (repeat (first | rw [World.plus_plus] | rw [World.plus_drew] | rw [World.drew_plus])); repeat (first | exact Ex.refl _ | apply Ex.plus_add | apply Ex.plus_drew | apply Ex.plus | apply Ex.alloc | apply Ex.drew))).mono ?_); rintro e w' ⟨rfl, hx⟩; obtain ⟨g, rfl⟩ := hx) | (go_at_call 43; (with_reducible refine (filterOk_any _ _ _ xs _ (by refine Holds.ex (Owns.holds (by assumption)) ?_; (repeat (first | rw [World.plus_plus] | rw [World.plus_drew] | rw [World.drew_plus])); repeat (first | exact Ex.refl _ | apply Ex.plus_add | apply Ex.plus_drew | apply Ex.plus | apply Ex.alloc | apply Ex.drew))).mono ?_); rintro e w' ⟨rfl, hx⟩; obtain ⟨g, rfl⟩ := hx) | (go_at_call 44; (with_reducible refine (eqFilter_same _ _ _ _ xs _ (by refine Holds.ex (Owns.holds (by assumption)) ?_; (repeat (first | rw [World.plus_plus] | rw [World.plus_drew] | rw [World.drew_plus])); repeat (first | exact Ex.refl _ | apply Ex.plus_add | apply Ex.plus_drew | apply Ex.plus | apply Ex.alloc | apply Ex.drew)) (by refine Holds.ex (Owns.holds (by assumption)) ?_; (repeat (first | rw [World.plus_plus] | rw [World.plus_drew] | rw [World.drew_plus])); repeat (first | exact Ex.refl _ | apply Ex.plus_add | apply Ex.plus_drew | apply Ex.plus | apply Ex.alloc | apply Ex.drew))).mono ?_); rintro e w' ⟨rfl, hx⟩; obtain ⟨g, rfl⟩ := hx))); (try go_simp); refine hK _ _ (show Ex _ _ from (by repeat (first | exact Ex.refl _ | apply Ex.plus_add | apply Ex.plus_drew | apply Ex.plus | apply Ex.alloc | apply Ex.drew))) ?_; clear hK K)
    first | refine wpMix_skip rfl rfl ?_ | (refine wpMix_forced rfl rfl ?_; intro K hK; go_simp; (try (first | (go_at_call 42; (with_reducible refine (toFilter_any _ _ _ xs _ (hF.ex (by repeat (first | exact Ex.refl _ | apply Ex.plus_add | apply Ex.plus_drew | apply Ex.plus | apply Ex.alloc | apply Ex.drew))) (by omega)).mono ?_); rintro e w' ⟨a1, c1, rfl, ho, hx⟩; obtain ⟨g, rfl⟩ := hx) | (go_at_call 40; (first | (with_reducible refine (szFilter_le _ _ _ xs _ _ (hF.ex (by repeat (first | exact Ex.refl _ | apply Ex.plus_add | apply Ex.plus_drew | apply Ex.plus | apply Ex.alloc | apply Ex.drew))) (by omega) (by omega)).mono ?_) | (with_reducible refine (szFilter_gt _ _ _ xs _ _ (hF.ex (by repeat (first | exact Ex.refl _ | apply Ex.plus_add | apply Ex.plus_drew | apply Ex.plus | apply Ex.alloc | apply Ex.drew))) (by omega) (by omega) (by omega)).mono ?_)); rintro e w' ⟨rfl, hx⟩; obtain ⟨g, rfl⟩ := hx) | (go_at_call 41; (with_reducible refine (filterOkS_any _ _ _ xs _ (by refine Holds.ex (Owns.holds (by assumption)) ?_; (repeat (first | rw [World.plus_plus] | rw [World.plus_drew] | rw [World.drew_plus])); repeat (first | exact Ex.refl _ | apply Ex.plus_add | apply Ex.plus_drew | apply Ex.plus | apply Ex.alloc | apply Ex.drew))).mono ?_); rintro e w' ⟨rfl, hx⟩; obtain ⟨g, rfl⟩ := hx) | (go_at_call 43; (with_reducible refine (filterOk_any _ _ _ xs _ (by refine Holds.ex (Owns.holds (by assumption)) ?_; (repeat (first | rw [World.plus_plus] | rw [World.plus_drew] | rw [World.drew_plus])); repeat (first | exact Ex.refl _ | apply Ex.plus_add | apply Ex.plus_drew | apply Ex.plus | apply Ex.alloc | apply Ex.drew))).mono ?_); rintro e w' ⟨rfl, hx⟩; obtain ⟨g, rfl⟩ := hx) | (go_at_call 44; (with_reducible refine (eqFilter_same _ _ _ _ xs _ (by refine Holds.ex (Owns.holds (by assumption)) ?_; (repeat (first | rw [World.plus_plus] | rw [World.plus_drew] | rw [World.drew_plus])); repeat (first | exact Ex.refl _ | apply Ex.plus_add | apply Ex.plus_drew | apply Ex.plus | apply Ex.alloc | apply Ex.drew)) (by refine Holds.ex (Owns.holds (by assumption)) ?_; (repeat (first | rw [World.plus_plus] | rw [World.plus_drew] | rw [World.drew_plus])); repeat (first | exact Ex.refl _ | apply Ex.plus_add | apply Ex.plus_drew | apply Ex.plus | apply Ex.alloc | apply Ex.drew))).mono ?_); rintro e w' ⟨rfl, hx⟩; obtain ⟨g, rfl⟩ := hx))); (try go_simp); refine hK _ _ (show Ex _ _ from (by repeat (first | exact Ex.refl _ | apply Ex.plus_add | apply Ex.plus_drew | apply Ex.plus | apply Ex.alloc | apply Ex.drew))) ?_; clear hK K)
    refine wpMix_nil ?_
    go_wp2
    go_ret
    exact ⟨rfl, (by repeat (first | exact Ex.refl _ | apply Ex.plus_add | apply Ex.plus_drew | apply Ex.plus | apply Ex.alloc | apply Ex.drew))⟩

end Go.Proofs.Ytjkphkllibibmaa
