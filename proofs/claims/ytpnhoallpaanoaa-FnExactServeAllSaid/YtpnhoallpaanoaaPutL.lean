/- The walk of FnExactPutFrame. -/
import Derived.Test.YtpnhoallpaanoaaRows
import Derived.Test.YtpnhoallpaanoaaPutF
import Derived.Test.YtpnhoallpaanoaaMarkF
namespace Go.Proofs.Ytpnhoallpaanoaa
open Go.RowKit
set_option linter.unusedVariables false
set_option linter.unusedSimpArgs false

theorem totL_tot : ∀ l : List (List Int), totL l = tot l
  | [] => rfl
  | x :: l => by simp [totL, tot, totL_tot l]
theorem totL_set : ∀ (qs : List (List Int)) (k : Nat) (x : List Int), totL (qs.set k x) ≤ totL qs + x.length
  | [], _, _ => by simp [totL]
  | q :: qs, 0, x => by simp [totL]; omega
  | q :: qs, k + 1, x => by have := totL_set qs k x; simp [totL]; omega
theorem putF_len {qs : List (List Int)} {ds : List Int} {qu tu : Int} {fr : Bool} {k len : Int} {qs' : List (List Int)} {ok : Bool} (hq : (qs', ok) = putF qs ds qu tu fr k len) : totL qs' ≤ totL qs + totL qs + 1 := by
  have key : ∀ k : Nat, (qs.getD k []).length ≤ totL qs := fun k => by
    by_cases h : k < qs.length
    · have e : qs.getD k [] = qs[k] := by simp [List.getD, h]
      rw [e, totL_tot]; exact len_le_tot _ _ (List.getElem_mem h)
    · have e : qs.getD k [] = [] := by simp [List.getD, List.getElem?_eq_none (Nat.le_of_not_lt h)]
      rw [e]; simp
  unfold putF at hq
  have h2 := totL_set qs k.toNat (qs.getD k.toNat [] ++ [len])
  have h3 := key k.toNat
  rw [List.length_append, List.length_singleton] at h2
  split at hq
  · split at hq
    · simp only [Prod.mk.injEq] at hq; rw [hq.1]; omega
    · simp only [Prod.mk.injEq] at hq; rw [hq.1]; omega
  · simp only [Prod.mk.injEq] at hq; rw [hq.1]; omega

end Go.Proofs.Ytpnhoallpaanoaa
