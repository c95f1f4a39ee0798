/- Contracts of due, VectorOk and their likes in the reference. -/
import Derived.Test.YtlpipllhbobfbaaRows
import Derived.Test.YtlpipllhbobfbaaBase
namespace Go.Proofs.Ytlpipllhbobfbaa
open Go.RowKit

def dueB (mc mt c t : Int) : Bool := decide (1 ≤ c) && (decide (mc ≤ c) || decide (mt ≤ t))
def vectorOkB (mc mt c t : Int) (m r : Bool) : Bool :=
  inB mc 1 64 && inB mt 0 64 && inB c 0 1000000 && inB t 0 1000000 && (decide (0 < c) || t == 0) && r == (dueB mc mt c t && !m)

set_option maxHeartbeats 400000 in
theorem due_any (mc mt c t : Int) (m r : Bool) (w : World) :
    Calls Try.prog 94 #[.agg #[.int .i64 mc, .int .i64 mt, .int .i64 c, .int .i64 t, .bool m, .bool r]] w fun e w' => e = .returned (.bool (dueB mc mt c t)) ∧ Ex w w' := by
  go_enter Try.func94, Try.ntmps94
  go_wp2
  all_goals go_ret
  all_goals exact ⟨ret_bool (by rw [Bool.eq_iff_iff]; simp [dueB]; omega), (Ex.refl _).alloc _⟩

set_option maxHeartbeats 400000 in
theorem l28Due_any (mc mt c t : Int) (m r : Bool) (w : World) :
    Calls Try.prog 105 #[.agg #[.int .i64 mc, .int .i64 mt, .int .i64 c, .int .i64 t, .bool m, .bool r]] w fun e w' => e = .returned (.bool (dueB mc mt c t)) ∧ Ex w w' := by
  go_enter Try.func105, Try.ntmps105
  go_wp2
  all_goals go_ret
  all_goals exact ⟨ret_bool (by rw [Bool.eq_iff_iff]; simp [dueB]; omega), (Ex.refl _).alloc _⟩

set_option maxHeartbeats 1000000 in
theorem vectorOk_any (mc mt c t : Int) (m r : Bool) (w : World) :
    Calls Try.prog 61 #[.agg #[.int .i64 mc, .int .i64 mt, .int .i64 c, .int .i64 t, .bool m, .bool r]] w fun e w' => e = .returned (.bool (vectorOkB mc mt c t m r)) ∧ Ex w w' := by
  go_enter Try.func61, Try.ntmps61
  go_wp2
  all_goals try simp only [Bool.not_eq_true', Bool.not_eq_false', decide_eq_true_eq, decide_eq_false_iff_not] at *
  all_goals try (go_ret; exact ⟨ret_bool (by rw [Bool.eq_iff_iff]; simp [vectorOkB, inB]; omega), (Ex.refl _).alloc _⟩)
  have hv : vectorOkB mc mt c t m r = ((decide (0 < c) || t == 0) && r == (dueB mc mt c t && !m)) := by
    have h1 : inB mc 1 64 = true := inB_iff.2 (by omega)
    have h2 : inB mt 0 64 = true := inB_iff.2 (by omega)
    have h3 : inB c 0 1000000 = true := inB_iff.2 (by omega)
    have h4 : inB t 0 1000000 = true := inB_iff.2 (by omega)
    simp [vectorOkB, h1, h2, h3, h4]
  replace hv := hid hv
  cases hc1 : decide (0 < c) <;> cases ht1 : (t == 0) <;> cases hd : dueB mc mt c t
  all_goals
    refine wp_region_ext (by kernel_rfl) (by kernel_rfl) ?_
    repeat (go_big_quiet_step ((go_at_call 94; exact Calls.ext_of (hd ▸ due_any mc mt c t m r _))))
    refine wpQuiet_nil ?_
    intro g
    go_wp2
    go_ret
    exact ⟨ret_bool (by rw [hv.out, hd, hc1, ht1]; simp), ((Ex.refl _).alloc _).plus _⟩

set_option maxHeartbeats 1000000 in
theorem vectorOkS_any (mc mt c t : Int) (m r : Bool) (w : World) :
    Calls Try.prog 67 #[.agg #[.int .i64 mc, .int .i64 mt, .int .i64 c, .int .i64 t, .bool m, .bool r]] w fun e w' => e = .returned (.bool (vectorOkB mc mt c t m r)) ∧ Ex w w' := by
  go_enter Try.func67, Try.ntmps67
  go_wp2
  all_goals try simp only [Bool.not_eq_true', Bool.not_eq_false', decide_eq_true_eq, decide_eq_false_iff_not] at *
  all_goals try (go_ret; exact ⟨ret_bool (by rw [Bool.eq_iff_iff]; simp [vectorOkB, inB]; omega), (Ex.refl _).alloc _⟩)
  have hv : vectorOkB mc mt c t m r = ((decide (0 < c) || t == 0) && r == (dueB mc mt c t && !m)) := by
    have h1 : inB mc 1 64 = true := inB_iff.2 (by omega)
    have h2 : inB mt 0 64 = true := inB_iff.2 (by omega)
    have h3 : inB c 0 1000000 = true := inB_iff.2 (by omega)
    have h4 : inB t 0 1000000 = true := inB_iff.2 (by omega)
    simp [vectorOkB, h1, h2, h3, h4]
  replace hv := hid hv
  cases hc1 : decide (0 < c) <;> cases ht1 : (t == 0) <;> cases hd : dueB mc mt c t
  all_goals
    refine wp_region_ext (by kernel_rfl) (by kernel_rfl) ?_
    repeat (go_big_quiet_step ((go_at_call 105; exact Calls.ext_of (hd ▸ l28Due_any mc mt c t m r _))))
    refine wpQuiet_nil ?_
    intro g
    go_wp2
    go_ret
    exact ⟨ret_bool (by rw [hv.out, hd, hc1, ht1]; simp), ((Ex.refl _).alloc _).plus _⟩
end Go.Proofs.Ytlpipllhbobfbaa
