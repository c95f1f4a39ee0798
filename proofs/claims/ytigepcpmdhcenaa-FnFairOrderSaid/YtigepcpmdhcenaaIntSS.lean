/- The law helpers over slices of slices of numbers. -/
import Derived.Test.YtigepcpmdhcenaaFill
import Derived.Test.YtigepcpmdhcenaaInts
import Derived.Test.YtigepcpmdhcenaaReg
namespace Go.Proofs.Ytigepcpmdhcenaa
open Go.RowKit
set_option linter.unusedVariables false

def tot : List (List Int) → Nat
  | [] => 0
  | x :: l => x.length + tot l
def pre : List (List Int) → Nat → Nat
  | _, 0 => 0
  | [], _ + 1 => 0
  | x :: l, k + 1 => x.length + pre l k
theorem pre_zero : ∀ l : List (List Int), pre l 0 = 0
  | [] => rfl
  | _ :: _ => rfl
theorem pre_succ : ∀ (l : List (List Int)) (k : Nat) (h : k < l.length), pre l (k + 1) = pre l k + (l[k]'h).length
  | x :: l, 0, _ => by simp [pre, pre_zero]
  | x :: l, k + 1, h => by
    have := pre_succ l k (by simpa using h)
    show x.length + pre l (k + 1) = x.length + pre l k + (l[k]'(by simpa using h)).length
    omega
theorem pre_all : ∀ l : List (List Int), pre l l.length = tot l
  | [] => rfl
  | x :: l => by show x.length + pre l l.length = x.length + tot l; rw [pre_all l]
theorem pre_le : ∀ (l : List (List Int)) (k : Nat), pre l k ≤ tot l
  | [], 0 => Nat.le_refl _
  | [], _ + 1 => Nat.le_refl _
  | _ :: _, 0 => Nat.zero_le _
  | x :: l, k + 1 => by have := pre_le l k; show x.length + pre l k ≤ x.length + tot l; omega
theorem len_le_tot : ∀ (l : List (List Int)), ∀ x ∈ l, x.length ≤ tot l
  | y :: l, x, h => by
    show x.length ≤ y.length + tot l
    rcases List.mem_cons.1 h with rfl | h
    · omega
    · have := len_le_tot l x h; omega

end Go.Proofs.Ytigepcpmdhcenaa
