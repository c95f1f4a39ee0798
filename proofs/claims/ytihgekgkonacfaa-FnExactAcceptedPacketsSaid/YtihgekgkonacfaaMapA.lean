/- Mappings: the first one of a page, the page's place, whether a list is valid: the program and the reference. -/
import Derived.Test.YtihgekgkonacfaaRows
import Derived.Test.YtihgekgkonacfaaArr
import Derived.Test.YtihgekgkonacfaaTy
import Derived.Test.YtihgekgkonacfaaTi
import Derived.Test.YtihgekgkonacfaaScal
import Derived.Test.YtihgekgkonacfaaTk
namespace Go.Proofs.Ytihgekgkonacfaa
open Go.RowKit
set_option linter.unusedVariables false
set_option linter.unusedSimpArgs false

def mapGood (l : List Mp) (k : Nat) : Prop := ∀ h : k < l.length, MapFine l[k] ∧ ∀ j (g : j < k), ¬ ((l[j]'(by omega)).1 = l[k].1 ∧ (l[j]'(by omega)).2.1 = l[k].2.1)
theorem mapsOk_bad {l : List Mp} {k : Nat} (hk : k < l.length) (h : ¬ mapGood l k) : mapsOk l = false := mapsOk_not fun hh => h fun hk => hh.2 k hk
theorem mapsOk_all {l : List Mp} (h : ∀ k, k < l.length → mapGood l k) : mapsOk l = decide ((l.length : Int) ≤ 96) := by
  by_cases h9 : l.length ≤ 96
  · rw [mapsOk_iff.2 ⟨h9, fun i hi => h i hi hi⟩, decide_eq_true (by omega)]
  · rw [mapsOk_not (fun hh => h9 hh.1), decide_eq_false (by omega)]
theorem all_step {k : Nat} {Q : Nat → Prop} (h : ∀ j, j < k → Q j) (hk : Q k) : ∀ j, j < k + 1 → Q j := fun j g => by
  rcases Nat.lt_or_ge j k with h2 | h2
  · exact h j h2
  · obtain rfl : j = k := by omega
    exact hk
theorem all_stepG {n k : Nat} {Q : ∀ j, j < n → Prop} (h : ∀ j (g : j < n), j < k → Q j g) (hk : ∀ g : k < n, Q k g) : ∀ j (g : j < n), j < k + 1 → Q j g := fun j g g2 => by
  rcases Nat.lt_or_ge j k with h2 | h2
  · exact h j g h2
  · obtain rfl : j = k := by omega
    exact hk g
theorem mapsOk_long {l : List Mp} (h : 96 < l.length) : mapsOk l = false := mapsOk_not fun hh => by have := hh.1; omega
theorem mapGood_no1 {l : List Mp} {k : Nat} {a b c : Int} {e : Bool} (hk : k < l.length) (hx : l[k] = (a, b, c, e)) (h : inB a 0 7 = false ∨ inB b 0 1023 = false ∨ inB c 0 63 = false ∨ ∃ j, ∃ g : j < k, (l[j]'(by omega)).1 = a ∧ (l[j]'(by omega)).2.1 = b) : ¬ mapGood l k := by
  intro hg
  obtain ⟨⟨h1, h2, h3⟩, h4⟩ := hg hk
  rw [hx] at h1 h2 h3 h4
  rcases h with h | h | h | ⟨j, g, h⟩
  · rw [inB_not] at h; simp only at h1; omega
  · rw [inB_not] at h; simp only at h2; omega
  · rw [inB_not] at h; simp only at h3; omega
  · exact h4 j g h
theorem mapGood_yes {l : List Mp} {k : Nat} {a b c : Int} {e : Bool} (hk : k < l.length) (hx : l[k] = (a, b, c, e)) (h1 : inB a 0 7 = true) (h2 : inB b 0 1023 = true) (h3 : inB c 0 63 = true) (h4 : ∀ j (g : j < k), ¬ ((l[j]'(by omega)).1 = a ∧ (l[j]'(by omega)).2.1 = b)) : mapGood l k := by
  intro _
  rw [hx]
  exact ⟨⟨inB_iff.1 h1, inB_iff.1 h2, inB_iff.1 h3⟩, h4⟩
theorem mapGood_idx {l : List Mp} {k : Nat} {a b c : Int} {e : Bool} (hk : k < l.length) (hx : l[k] = (a, b, c, e)) : (mpIdx l a b != (k : Int)) = false ↔ ∀ j (g : j < k), ¬ ((l[j]'(by omega)).1 = a ∧ (l[j]'(by omega)).2.1 = b) := by
  have := mpIdx_self hk
  rw [hx] at this
  rw [← this]; simp

def noUse (wt : Bool) (m : Mp) : Prop := wt = true ∧ m.2.2.2 = false

end Go.Proofs.Ytihgekgkonacfaa
