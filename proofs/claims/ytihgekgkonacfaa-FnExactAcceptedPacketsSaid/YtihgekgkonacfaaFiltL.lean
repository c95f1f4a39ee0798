/- The law helpers over a Filter; the walk of FnExactFilterOk. -/
import Derived.Test.YtihgekgkonacfaaRows
import Derived.Test.YtihgekgkonacfaaFilt
import Derived.Test.YtihgekgkonacfaaReg
namespace Go.Proofs.Ytihgekgkonacfaa
open Go.RowKit
set_option linter.unusedVariables false

set_option maxHeartbeats 400000 in
theorem toFilter_any (mac : Int) (pr : Bool) (v : Value) (xs : List Int) (w : World) (k1 : Holds w xs [v]) (hl : xs.length ≤ 1099511627776) :
    Calls Try.prog 16 #[.agg #[.int .i64 mac, .bool pr, v]] w (RetFilter w mac pr xs) := by
  obtain ⟨a, cap, hv, h1, h2, _, h4⟩ := k1.ints
  simp only [List.cons.injEq, and_true] at hv
  subst hv

  go_enter Try.func16, Try.ntmps16
  go_wp2_with (go_at_call 33; (with_reducible refine (toIntS_any _ xs _ (k1.ex (by repeat (first | exact Ex.refl _ | apply Ex.plus_add | apply Ex.plus_drew | apply Ex.plus | apply Ex.alloc | apply Ex.drew))) hl).mono ?_); rintro e w' ⟨a1, c1, rfl, ho, hx⟩; obtain ⟨g, rfl⟩ := hx)
  refine bodyPost_ret (v := _) (by simp [results, Try.results16, go_sem] <;> rfl) rfl ⟨a1, c1, rfl, ?_, ?_⟩
  · exact (ho.agr (Agr.plus (by simp) (Nat.le_refl _))).lower (by simp; omega)
  · exact (by repeat (first | exact Ex.refl _ | apply Ex.plus_add | apply Ex.plus_drew | apply Ex.plus | apply Ex.alloc | apply Ex.drew))

set_option maxHeartbeats 400000 in
theorem eqFilter_same (mac : Int) (pr : Bool) (v1 v2 : Value) (xs : List Int) (w : World) (k1 : Holds w xs [v1]) (k2 : Holds w xs [v2]) :
    Calls Try.prog 19 #[.agg #[.int .i64 mac, .bool pr, v1], .agg #[.int .i64 mac, .bool pr, v2]] w fun e w' => e = .returned (.bool true) ∧ Ex w w' := by
  obtain ⟨a, cap, hv, _⟩ := k1.ints
  obtain ⟨a', cap', hv', _⟩ := k2.ints
  simp only [List.cons.injEq, and_true] at hv hv'
  subst hv hv'
  go_enter Try.func19, Try.ntmps19
  go_wp2_with (go_at_call 36; (with_reducible refine (eqIntS_same _ _ xs _ (k1.ex (by repeat (first | exact Ex.refl _ | apply Ex.plus_add | apply Ex.plus_drew | apply Ex.plus | apply Ex.alloc | apply Ex.drew))) (k2.ex (by repeat (first | exact Ex.refl _ | apply Ex.plus_add | apply Ex.plus_drew | apply Ex.plus | apply Ex.alloc | apply Ex.drew)))).mono ?_); rintro e w' ⟨rfl, hx⟩; obtain ⟨g, rfl⟩ := hx)
  go_ret
  exact ⟨rfl, (by repeat (first | exact Ex.refl _ | apply Ex.plus_add | apply Ex.plus_drew | apply Ex.plus | apply Ex.alloc | apply Ex.drew))⟩

set_option maxHeartbeats 400000 in
theorem szFilter_le (mac : Int) (pr : Bool) (v : Value) (xs : List Int) (l : Int) (w : World) (k1 : Holds w xs [v]) (hl : l ≤ 1048576) (h : (xs.length : Int) ≤ l) :
    Calls Try.prog 13 #[.agg #[.int .i64 mac, .bool pr, v], .int .i64 l] w fun e w' => e = .returned (.int .i64 (l - xs.length)) ∧ Ex w w' := by
  obtain ⟨a, cap, hv, h1, h2, _, h4⟩ := k1.ints
  simp only [List.cons.injEq, and_true] at hv
  subst hv

  go_enter Try.func13, Try.ntmps13
  go_wp2_with (go_at_call 30; (with_reducible refine (szIntS_le _ xs l _ (k1.ex (by repeat (first | exact Ex.refl _ | apply Ex.plus_add | apply Ex.plus_drew | apply Ex.plus | apply Ex.alloc | apply Ex.drew))) hl h).mono ?_); rintro e w' ⟨rfl, rfl⟩)
  go_ret
  exact ⟨rfl, (by repeat (first | exact Ex.refl _ | apply Ex.plus_add | apply Ex.plus_drew | apply Ex.plus | apply Ex.alloc | apply Ex.drew))⟩

set_option maxHeartbeats 400000 in
theorem szFilter_gt (mac : Int) (pr : Bool) (v : Value) (xs : List Int) (l : Int) (w : World) (k1 : Holds w xs [v]) (h0 : 0 ≤ l) (hl : l ≤ 1048576) (h : l < (xs.length : Int)) :
    Calls Try.prog 13 #[.agg #[.int .i64 mac, .bool pr, v], .int .i64 l] w fun e w' => e = .returned (.int .i64 (-1)) ∧ Ex w w' := by
  obtain ⟨a, cap, hv, h1, h2, _, h4⟩ := k1.ints
  simp only [List.cons.injEq, and_true] at hv
  subst hv

  go_enter Try.func13, Try.ntmps13
  go_wp2_with (go_at_call 30; (with_reducible refine (szIntS_gt _ xs l _ (k1.ex (by repeat (first | exact Ex.refl _ | apply Ex.plus_add | apply Ex.plus_drew | apply Ex.plus | apply Ex.alloc | apply Ex.drew))) h0 hl h).mono ?_); rintro e w' ⟨rfl, rfl⟩)
  go_ret
  exact ⟨rfl, (by repeat (first | exact Ex.refl _ | apply Ex.plus_add | apply Ex.plus_drew | apply Ex.plus | apply Ex.alloc | apply Ex.drew))⟩

end Go.Proofs.Ytihgekgkonacfaa
