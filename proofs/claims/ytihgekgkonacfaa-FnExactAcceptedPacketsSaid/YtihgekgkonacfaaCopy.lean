/- copyInts: a list copied into new memory. -/
import Derived.Test.YtihgekgkonacfaaRows
import Derived.Test.YtihgekgkonacfaaApp
namespace Go.Proofs.Ytihgekgkonacfaa
open Go.RowKit
set_option linter.unusedVariables false
theorem info_int : (Try.prog.info? 3).map (fun i => (i.zero, i.size, i.bytes)) = some (some (.int .i64 0), 1, 8) := by kernel_rfl

set_option maxHeartbeats 400000 in
theorem copyInts_any (v : Value) (xs : List Int) (w : World) (h : Holds w xs [v]) (hl : xs.length ≤ 1099511627776) :
    Calls Try.prog 49 #[v] w (RetSl w xs) := by
  obtain ⟨a, cap, hv, h1, h2, _, h4⟩ := h.ints
  simp only [List.cons.injEq, and_true] at hv
  subst hv
  unfold maxLen at h2
  go_enter Try.func49, Try.ntmps49
  go_wp2_with (at_builtin; refine wpList_app rfl (.tmp 3) (.tmp 4) 28 28 rfl 3 (.int .i64 0) 1 8 Try.underlying28 info_int rfl w.heap.size _ 0 [] rfl (Slot.made (Nat.le_refl _)) _ xs.length (xs.map (Value.int .i64)) rfl ((h.ex ((Ex.refl _).alloc _)).srcInts Try.underlying28) (by unfold maxLen; omega) (by omega) (by simp) ?_; intro v' f g hs hb)
  go_ret
  rw [Nat.zero_add, List.nil_append] at hs
  obtain ⟨_, ho⟩ := hs.ints h4
  obtain ⟨a', cap', rfl, _⟩ := hs.form
  exact ⟨a', cap', rfl, ho, (((Ex.refl _).alloc _).upd1 (Nat.le_refl _)).plus _⟩
end Go.Proofs.Ytihgekgkonacfaa
