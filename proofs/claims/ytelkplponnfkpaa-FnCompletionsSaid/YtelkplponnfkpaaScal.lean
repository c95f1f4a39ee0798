/- Contracts of the scalar tests: between, BucketOk, CompletionOk, QueueOk, VectorOk and their likes in the reference. -/
import Derived.Test.YtelkplponnfkpaaRows
import Derived.Test.YtelkplponnfkpaaBase
namespace Go.Proofs.Ytelkplponnfkpaa
open Go.RowKit

set_option maxHeartbeats 400000 in
theorem l01In_any (n a b : Int) (w : World) :
    Calls Try.prog 123 #[.int .i64 n, .int .i64 a, .int .i64 b] w fun e w' => e = .returned (.bool (inB n a b)) ∧ w = w' := by
  go_enter Try.func123, Try.ntmps123
  go_wp2
  all_goals go_ret
  all_goals exact ⟨ret_bool (by rw [Bool.eq_iff_iff]; simp [inB]; omega), rfl⟩
set_option maxHeartbeats 400000 in
theorem between_any (n a b : Int) (w : World) :
    Calls Try.prog 62 #[.int .i64 n, .int .i64 a, .int .i64 b] w fun e w' => e = .returned (.bool (inB n a b)) ∧ w = w' := by
  go_enter Try.func62, Try.ntmps62
  go_wp2
  all_goals go_ret
  all_goals exact ⟨ret_bool (by rw [Bool.eq_iff_iff]; simp [inB]; omega), rfl⟩

theorem l01In_v {n a b : Int} {v : Bool} (h : inB n a b = v) (w : World) :
    Calls Try.prog 123 #[.int .i64 n, .int .i64 a, .int .i64 b] w fun e w' => e = .returned (.bool v) ∧ w = w' := h ▸ l01In_any n a b w
theorem between_v {n a b : Int} {v : Bool} (h : inB n a b = v) (w : World) :
    Calls Try.prog 62 #[.int .i64 n, .int .i64 a, .int .i64 b] w fun e w' => e = .returned (.bool v) ∧ w = w' := h ▸ between_any n a b w
def bucketOkB (r b t : Int) : Bool := inB r 0 10000 && inB b 0 100000 && inB t 0 b
def completionOkB (a b c d e : Int) : Bool := inB a 0 65535 && inB b 0 65535 && inB c 0 65535 && inB d 0 65535 && inB e 0 4294967295
def sizeB (n : Int) : Bool := n == 2 || n == 4 || n == 8 || n == 16
def queueOkB (b s c : Int) : Bool := inB b 0 130944 && sizeB s && inB c 0 (2 * s - 1)
set_option maxHeartbeats 400000 in
theorem l20Size_any (n : Int) (w : World) :
    Calls Try.prog 124 #[.int .i64 n] w fun e w' => e = .returned (.bool (sizeB n)) ∧ w = w' := by
  go_enter Try.func124, Try.ntmps124
  go_wp2
  all_goals go_ret
  all_goals exact ⟨ret_bool (by rw [Bool.eq_iff_iff]; simp [sizeB]; try omega), rfl⟩
set_option maxHeartbeats 400000 in
theorem ringSize_any (n : Int) (w : World) :
    Calls Try.prog 63 #[.int .i64 n] w fun e w' => e = .returned (.bool (sizeB n)) ∧ w = w' := by
  go_enter Try.func63, Try.ntmps63
  go_wp2
  all_goals go_ret
  all_goals exact ⟨ret_bool (by rw [Bool.eq_iff_iff]; simp [sizeB]; try omega), rfl⟩
set_option maxHeartbeats 400000 in
theorem completionOk_any (a b c d h : Int) (w : World) :
    Calls Try.prog 54 #[.agg #[.int .i64 a, .int .i64 b, .int .i64 c, .int .i64 d, .int .i64 h]] w fun e w' => e = .returned (.bool (completionOkB a b c d h)) ∧ Ex w w' := by
  go_enter Try.func54, Try.ntmps54
  go_wp2
  all_goals go_ret
  all_goals exact ⟨ret_bool (by rw [Bool.eq_iff_iff]; simp [completionOkB, inB] <;> omega), (Ex.refl _).alloc _⟩
set_option maxHeartbeats 400000 in
theorem completionOkS_any (a b c d h : Int) (w : World) :
    Calls Try.prog 73 #[.agg #[.int .i64 a, .int .i64 b, .int .i64 c, .int .i64 d, .int .i64 h]] w fun e w' => e = .returned (.bool (completionOkB a b c d h)) ∧ Ex w w' := by
  go_enter Try.func73, Try.ntmps73
  go_wp2
  all_goals go_ret
  all_goals exact ⟨ret_bool (by rw [Bool.eq_iff_iff]; simp [completionOkB, inB] <;> omega), (Ex.refl _).alloc _⟩
set_option maxHeartbeats 400000 in
theorem queueOk_any (b s c : Int) (w : World) :
    Calls Try.prog 15 #[.agg #[.int .i64 b, .int .i64 s, .int .i64 c]] w fun e w' => e = .returned (.bool (queueOkB b s c)) ∧ Ex w w' := by
  go_enter Try.func15, Try.ntmps15
  go_wp2
  all_goals go_ret
  all_goals exact ⟨ret_bool (by rw [Bool.eq_iff_iff]; simp [queueOkB, sizeB, inB] <;> omega), (Ex.refl _).alloc _⟩
set_option maxHeartbeats 400000 in
theorem queueOkS_any (b s c : Int) (w : World) :
    Calls Try.prog 65 #[.agg #[.int .i64 b, .int .i64 s, .int .i64 c]] w fun e w' => e = .returned (.bool (queueOkB b s c)) ∧ Ex w w' := by
  go_enter Try.func65, Try.ntmps65
  go_wp2
  all_goals go_ret
  all_goals exact ⟨ret_bool (by rw [Bool.eq_iff_iff]; simp [queueOkB, sizeB, inB] <;> omega), (Ex.refl _).alloc _⟩
end Go.Proofs.Ytelkplponnfkpaa
