/- Contracts of the scalar tests: between, BucketOk, CompletionOk, QueueOk, VectorOk and their likes in the reference. -/
import Derived.Test.YtihgekgkonacfaaRows
import Derived.Test.YtihgekgkonacfaaBase
namespace Go.Proofs.Ytihgekgkonacfaa
open Go.RowKit

set_option maxHeartbeats 400000 in
theorem l01In_any (n a b : Int) (w : World) :
    Calls Try.prog 60 #[.int .i64 n, .int .i64 a, .int .i64 b] w fun e w' => e = .returned (.bool (inB n a b)) ∧ w = w' := by
  go_enter Try.func60, Try.ntmps60
  go_wp2
  all_goals go_ret
  all_goals exact ⟨ret_bool (by rw [Bool.eq_iff_iff]; simp [inB]; omega), rfl⟩
set_option maxHeartbeats 400000 in
theorem between_any (n a b : Int) (w : World) :
    Calls Try.prog 29 #[.int .i64 n, .int .i64 a, .int .i64 b] w fun e w' => e = .returned (.bool (inB n a b)) ∧ w = w' := by
  go_enter Try.func29, Try.ntmps29
  go_wp2
  all_goals go_ret
  all_goals exact ⟨ret_bool (by rw [Bool.eq_iff_iff]; simp [inB]; omega), rfl⟩

theorem l01In_v {n a b : Int} {v : Bool} (h : inB n a b = v) (w : World) :
    Calls Try.prog 60 #[.int .i64 n, .int .i64 a, .int .i64 b] w fun e w' => e = .returned (.bool v) ∧ w = w' := h ▸ l01In_any n a b w
theorem between_v {n a b : Int} {v : Bool} (h : inB n a b = v) (w : World) :
    Calls Try.prog 29 #[.int .i64 n, .int .i64 a, .int .i64 b] w fun e w' => e = .returned (.bool v) ∧ w = w' := h ▸ between_any n a b w
def bucketOkB (r b t : Int) : Bool := inB r 0 10000 && inB b 0 100000 && inB t 0 b
def completionOkB (a b c d e : Int) : Bool := inB a 0 65535 && inB b 0 65535 && inB c 0 65535 && inB d 0 65535 && inB e 0 4294967295
def sizeB (n : Int) : Bool := n == 2 || n == 4 || n == 8 || n == 16
def queueOkB (b s c : Int) : Bool := inB b 0 130944 && sizeB s && inB c 0 (2 * s - 1)
end Go.Proofs.Ytihgekgkonacfaa
