/- The laws' helpers over memories: copies, sizes, equality, marks. -/
import Derived.Test.YtihgekgkonacfaaRows
import Derived.Test.YtihgekgkonacfaaMLaw
import Derived.Test.YtihgekgkonacfaaTk
namespace Go.Proofs.Ytihgekgkonacfaa
open Go.RowKit
set_option linter.unusedVariables false
set_option linter.unusedSimpArgs false

theorem mtexts_step {ps : Pg} {K i : Nat} (h : i < ps.length) : (mtexts i K ++ ps.drop i).set i (mtext (K + i)) = mtexts (i + 1) K ++ ps.drop (i + 1) := by
  rw [List.set_append_right _ _ (by rw [mtexts_length]; exact Nat.le_refl _), mtexts_length, Nat.sub_self, List.drop_eq_getElem_cons h, List.set_cons_zero]
  unfold mtexts
  rw [List.range_succ, List.map_append, List.append_assoc]
  rfl
def totS (ps : Pg) : Nat := (ps.map (·.size)).sum
theorem totS_take (ps : Pg) (k : Nat) (h : k < ps.length) : totS (ps.take (k + 1)) = totS (ps.take k) + ps[k].size := by
  unfold totS; rw [List.take_succ_eq_append_getElem h, List.map_append, List.sum_append, List.map_singleton, List.sum_singleton]
theorem totS_take_le (ps : Pg) (k : Nat) : totS (ps.take k) ≤ totS ps := by
  have := congrArg totS (List.take_append_drop k ps)
  unfold totS at this ⊢
  rw [List.map_append, List.sum_append] at this; omega
theorem totS_all (ps : Pg) : totS (ps.take ps.length) = totS ps := by rw [List.take_length]
theorem nil_ok : Flat.ok (⟨#[]⟩ : ByteArray) := Nat.zero_le _

end Go.Proofs.Ytihgekgkonacfaa
