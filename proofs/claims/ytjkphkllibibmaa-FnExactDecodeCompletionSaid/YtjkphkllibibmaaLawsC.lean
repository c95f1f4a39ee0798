/- The walks of the laws over completions. -/
import Derived.Test.YtjkphkllibibmaaRows
import Derived.Test.YtjkphkllibibmaaComp
import Derived.Test.YtjkphkllibibmaaRep
namespace Go.Proofs.Ytjkphkllibibmaa
open Go.RowKit
set_option linter.unusedVariables false

set_option maxHeartbeats 400000 in
theorem toCompletion_any (x_Cookie : Int) (x_Len : Int) (x_Size : Int) (x_Count : Int) (x_Hash : Int) (w : World) :
    Calls Try.prog 25 #[.agg #[.int .i64 x_Cookie, .int .i64 x_Len, .int .i64 x_Size, .int .i64 x_Count, .int .i64 x_Hash]] w fun e w' => e = .returned (.agg #[.int .i64 x_Cookie, .int .i64 x_Len, .int .i64 x_Size, .int .i64 x_Count, .int .i64 x_Hash]) ∧ Ex w w' := by
  go_enter Try.func25, Try.ntmps25
  go_wp2
  refine bodyPost_ret (v := .agg #[.int .i64 x_Cookie, .int .i64 x_Len, .int .i64 x_Size, .int .i64 x_Count, .int .i64 x_Hash]) (by simp [results, Try.results25, go_sem]) rfl ⟨rfl, ?_⟩
  exact (((Ex.refl _).alloc _).alloc _).alloc _

set_option maxHeartbeats 400000 in
theorem eqCompletion_same (x_Cookie : Int) (x_Len : Int) (x_Size : Int) (x_Count : Int) (x_Hash : Int) (w : World) :
    Calls Try.prog 37 #[.agg #[.int .i64 x_Cookie, .int .i64 x_Len, .int .i64 x_Size, .int .i64 x_Count, .int .i64 x_Hash], .agg #[.int .i64 x_Cookie, .int .i64 x_Len, .int .i64 x_Size, .int .i64 x_Count, .int .i64 x_Hash]] w fun e w' => e = .returned (.bool true) ∧ Ex w w' := by
  go_enter Try.func37, Try.ntmps37
  go_wp2
  go_ret
  exact ⟨rfl, ((Ex.refl _).alloc _).alloc _⟩

set_option maxHeartbeats 400000 in
theorem walk_FnExactEncodeCompletion (w : World) (aX_Cookie : Int) (haX_Cookie : i64ok aX_Cookie) (aX_Len : Int) (haX_Len : i64ok aX_Len) (aX_Size : Int) (haX_Size : i64ok aX_Size) (aX_Count : Int) (haX_Count : i64ok aX_Count) (aX_Hash : Int) (haX_Hash : i64ok aX_Hash) (aPhase : Int) (haPhase : i64ok aPhase) :
    Calls Try.prog 6 #[.agg #[.int .i64 aX_Cookie, .int .i64 aX_Len, .int .i64 aX_Size, .int .i64 aX_Count, .int .i64 aX_Hash], .int .i64 aPhase] w fun e w' => e = .returned (.bool true) ∧ Ex w w' := by
  cases k : completionOkB aX_Cookie aX_Len aX_Size aX_Count aX_Hash <;> cases k2 : inB aPhase 0 1
  all_goals
    have K := hid k
    clear k
    have K2 := hid k2
    clear k2
    go_enter Try.func6, Try.ntmps6
    go_wp2_with (first
          | (go_at_call 25; (with_reducible refine (toCompletion_any _ _ _ _ _ _).mono ?_); rintro e w' ⟨rfl, hx⟩; obtain ⟨g, rfl⟩ := hx)
          | (go_at_call 26; (first | (with_reducible refine (encode_f _ _ _ _ _ _ K.out _).mono ?_) | (with_reducible refine (encode_n _ _ _ _ _ _ K.out K2.out _).mono ?_) | (with_reducible refine (encode_t _ _ _ _ _ _ K.out K2.out _).mono ?_)); rintro e w' ⟨rfl, hx⟩; obtain ⟨g, rfl⟩ := hx)
          | (go_at_call 24; (first | (with_reducible refine (encodeS_f _ _ _ _ _ _ K.out _).mono ?_) | (with_reducible refine (encodeS_n _ _ _ _ _ _ K.out K2.out _).mono ?_) | (with_reducible refine (encodeS_t _ _ _ _ _ _ K.out K2.out _).mono ?_)); rintro e w' ⟨rfl, hx⟩; obtain ⟨g, rfl⟩ := hx))
    go_ret
    exact ⟨rfl, (by repeat (first | exact Ex.refl _ | apply Ex.plus | apply Ex.alloc | apply Ex.drew))⟩

set_option maxHeartbeats 400000 in
theorem walk_FnExactDecodeCompletion (w : World) (aS : ByteArray) (haS : aS.size ≤ maxLen) :
    Calls Try.prog 9 #[.string aS] w fun e w' => e = .returned (.bool true) ∧ Ex w w' := by
  unfold maxLen at haS
  rcases Int.lt_or_le 1048576 aS.size with hl | hl <;> cases k : ((aS.size : Int) == 16) <;> rcases Int.lt_or_le 1 (get32 aS 12) with k3 | k3
  all_goals have k2 : ((aS.size : Int) != 16) = !((aS.size : Int) == 16) := rfl
  all_goals rw [k] at k2
  all_goals simp only [Bool.not_true, Bool.not_false] at k2
  all_goals
    have K := hid k
    clear k
    have K2 := hid k2
    clear k2
    have K3 := hid k3
    clear k3
    go_enter Try.func9, Try.ntmps9
    go_wp2_with (first
          | (go_at_call 37; (with_reducible refine (eqCompletion_same _ _ _ _ _ _).mono ?_); rintro e w' ⟨rfl, hx⟩; obtain ⟨g, rfl⟩ := hx)
          | (go_at_call 36; (first | (with_reducible refine (decode_l _ haS K.out K2.out _).mono ?_) | (with_reducible refine (decode_f _ haS K.out K2.out K3.out _).mono ?_) | (with_reducible refine (decode_t _ haS K.out K2.out K3.out _).mono ?_)); rintro e w' ⟨rfl, hx⟩; obtain ⟨g, rfl⟩ := hx)
          | (go_at_call 35; (first | (with_reducible refine (decodeS_l _ haS K.out K2.out _).mono ?_) | (with_reducible refine (decodeS_f _ haS K.out K2.out K3.out _).mono ?_) | (with_reducible refine (decodeS_t _ haS K.out K2.out K3.out _).mono ?_)); rintro e w' ⟨rfl, hx⟩; obtain ⟨g, rfl⟩ := hx))
    go_ret
    exact ⟨rfl, (by repeat (first | exact Ex.refl _ | apply Ex.plus | apply Ex.alloc | apply Ex.drew))⟩

end Go.Proofs.Ytjkphkllibibmaa
