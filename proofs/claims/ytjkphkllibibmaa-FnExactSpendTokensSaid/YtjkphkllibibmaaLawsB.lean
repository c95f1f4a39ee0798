/- The walks of the laws over a token bucket. -/
import Derived.Test.YtjkphkllibibmaaRows
import Derived.Test.YtjkphkllibibmaaBuck
import Derived.Test.YtjkphkllibibmaaRep
namespace Go.Proofs.Ytjkphkllibibmaa
open Go.RowKit
set_option linter.unusedVariables false

set_option maxHeartbeats 400000 in
theorem toBucket_any (x_Rate : Int) (x_Burst : Int) (x_Tokens : Int) (w : World) :
    Calls Try.prog 16 #[.agg #[.int .i64 x_Rate, .int .i64 x_Burst, .int .i64 x_Tokens]] w fun e w' => e = .returned (.agg #[.int .i64 x_Rate, .int .i64 x_Burst, .int .i64 x_Tokens]) ∧ Ex w w' := by
  go_enter Try.func16, Try.ntmps16
  go_wp2
  refine bodyPost_ret (v := .agg #[.int .i64 x_Rate, .int .i64 x_Burst, .int .i64 x_Tokens]) (by simp [results, Try.results16, go_sem]) rfl ⟨rfl, ?_⟩
  exact (((Ex.refl _).alloc _).alloc _).alloc _

set_option maxHeartbeats 400000 in
theorem eqBucket_same (x_Rate : Int) (x_Burst : Int) (x_Tokens : Int) (w : World) :
    Calls Try.prog 18 #[.agg #[.int .i64 x_Rate, .int .i64 x_Burst, .int .i64 x_Tokens], .agg #[.int .i64 x_Rate, .int .i64 x_Burst, .int .i64 x_Tokens]] w fun e w' => e = .returned (.bool true) ∧ Ex w w' := by
  go_enter Try.func18, Try.ntmps18
  go_wp2
  go_ret
  exact ⟨rfl, ((Ex.refl _).alloc _).alloc _⟩

set_option maxHeartbeats 400000 in
theorem walk_FnExactRefillBucket (w : World) (aB_Rate : Int) (haB_Rate : i64ok aB_Rate) (aB_Burst : Int) (haB_Burst : i64ok aB_Burst) (aB_Tokens : Int) (haB_Tokens : i64ok aB_Tokens) (aTicks : Int) (haTicks : i64ok aTicks) :
    Calls Try.prog 3 #[.agg #[.int .i64 aB_Rate, .int .i64 aB_Burst, .int .i64 aB_Tokens], .int .i64 aTicks] w fun e w' => e = .returned (.bool true) ∧ Ex w w' := by
  cases h : bucketOkB aB_Rate aB_Burst aB_Tokens <;> cases h2 : inB aTicks 0 1000000
  all_goals
    have H := hid h
    clear h
    have H2 := hid h2
    clear h2
    go_enter Try.func3, Try.ntmps3
    go_wp2_with (first
          | (go_at_call 16; (with_reducible refine (toBucket_any _ _ _ _).mono ?_); rintro e w' ⟨rfl, hx⟩; obtain ⟨g, rfl⟩ := hx)
          | (go_at_call 18; (with_reducible refine (eqBucket_same _ _ _ _).mono ?_); rintro e w' ⟨rfl, hx⟩; obtain ⟨g, rfl⟩ := hx)
          | (go_at_call 17; (first | (with_reducible refine (refill_f _ _ _ _ H.out _).mono ?_) | (with_reducible refine (refill_n _ _ _ _ H.out H2.out _).mono ?_) | (with_reducible refine (refill_t _ _ _ _ H.out H2.out _).mono ?_)); rintro e w' ⟨rfl, hx⟩; obtain ⟨g, rfl⟩ := hx)
          | (go_at_call 15; (first | (with_reducible refine (refillS_f _ _ _ _ H.out _).mono ?_) | (with_reducible refine (refillS_n _ _ _ _ H.out H2.out _).mono ?_) | (with_reducible refine (refillS_t _ _ _ _ H.out H2.out _).mono ?_)); rintro e w' ⟨rfl, hx⟩; obtain ⟨g, rfl⟩ := hx))
    go_ret
    exact ⟨rfl, (by repeat (first | exact Ex.refl _ | apply Ex.plus | apply Ex.alloc | apply Ex.drew))⟩

set_option maxHeartbeats 400000 in
theorem walk_FnExactSpendTokens (w : World) (aB_Rate : Int) (haB_Rate : i64ok aB_Rate) (aB_Burst : Int) (haB_Burst : i64ok aB_Burst) (aB_Tokens : Int) (haB_Tokens : i64ok aB_Tokens) (aN : Int) (haN : i64ok aN) :
    Calls Try.prog 4 #[.agg #[.int .i64 aB_Rate, .int .i64 aB_Burst, .int .i64 aB_Tokens], .int .i64 aN] w fun e w' => e = .returned (.bool true) ∧ Ex w w' := by
  cases h : bucketOkB aB_Rate aB_Burst aB_Tokens <;> cases h2 : inB aN 0 aB_Tokens
  all_goals
    have H := hid h
    clear h
    have H2 := hid h2
    clear h2
    go_enter Try.func4, Try.ntmps4
    go_wp2_with (first
          | (go_at_call 16; (with_reducible refine (toBucket_any _ _ _ _).mono ?_); rintro e w' ⟨rfl, hx⟩; obtain ⟨g, rfl⟩ := hx)
          | (go_at_call 18; (with_reducible refine (eqBucket_same _ _ _ _).mono ?_); rintro e w' ⟨rfl, hx⟩; obtain ⟨g, rfl⟩ := hx)
          | (go_at_call 20; (first | (with_reducible refine (spend_f _ _ _ _ H.out _).mono ?_) | (with_reducible refine (spend_n _ _ _ _ H.out H2.out _).mono ?_) | (with_reducible refine (spend_t _ _ _ _ H.out H2.out _).mono ?_)); rintro e w' ⟨rfl, hx⟩; obtain ⟨g, rfl⟩ := hx)
          | (go_at_call 19; (first | (with_reducible refine (spendS_f _ _ _ _ H.out _).mono ?_) | (with_reducible refine (spendS_n _ _ _ _ H.out H2.out _).mono ?_) | (with_reducible refine (spendS_t _ _ _ _ H.out H2.out _).mono ?_)); rintro e w' ⟨rfl, hx⟩; obtain ⟨g, rfl⟩ := hx))
    go_ret
    exact ⟨rfl, (by repeat (first | exact Ex.refl _ | apply Ex.plus | apply Ex.alloc | apply Ex.drew))⟩

end Go.Proofs.Ytjkphkllibibmaa

