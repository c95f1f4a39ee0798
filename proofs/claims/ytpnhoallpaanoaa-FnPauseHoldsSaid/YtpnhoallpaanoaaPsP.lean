/- The link with pauses as data: a tick, a run, and why nothing is lost. No program in sight. -/
import Derived.Test.YtpnhoallpaanoaaScal
namespace Go
set_option linter.unusedVariables false

structure Pz where
  cap : Int
  hi : Int
  lo : Int
  d : Int
  fill : Int
  pa : Bool
  fl : List Int
  sg : List Bool
  st : Bool
  lost : Int
def sent1 (b : Bool) (o : Int) : Int := if b = true then 0 else o
def paus1 (hi lo fill : Int) (pa : Bool) : Bool := if fill ≤ lo then false else if hi < fill then true else pa
/-- What holds of a link since it was new: n was sent; d, hi are the delay and the high mark. -/
structure PInv (d : Nat) (hi lo fill : Int) (fl : List Int) (sg : List Bool) (n : Int) (j : Nat) : Prop where
  d1 : 1 ≤ d
  d4 : d ≤ 4
  l0 : 0 ≤ lo
  lh : lo ≤ hi
  h0 : hi ≤ 59
  f0 : 0 ≤ fill
  fln : fl.length = d
  sgn : sg.length = d
  rng : ∀ x ∈ fl, 0 ≤ x ∧ x ≤ 20
  cons : fill + fl.sum ≤ n
  jd : j ≤ d
  sig : ∀ i, d ≤ i + j → (h : i < sg.length) → sg[i] = true
  bd : fill + fl.sum ≤ hi + 20 * d + 20 * j
theorem sum_le20 : ∀ l : List Int, (∀ x ∈ l, 0 ≤ x ∧ x ≤ 20) → 0 ≤ l.sum ∧ l.sum ≤ 20 * (l.length : Int)
  | [], _ => by simp
  | x :: l, h => by
    have h1 := h x (List.mem_cons_self ..)
    have h2 := sum_le20 l fun y hy => h y (List.mem_cons_of_mem _ hy)
    simp only [List.sum_cons, List.length_cons]
    omega
theorem PInv.room {d : Nat} {hi lo fill : Int} {fl : List Int} {sg : List Bool} {n : Int} {j : Nat} (h : PInv d hi lo fill fl sg n j) : fill + fl.sum ≤ hi + 40 * (d : Int) := by
  have h1 := h.bd; have h2 := h.jd; omega
theorem PInv.head {d : Nat} {hi lo fill y : Int} {fl : List Int} {sg : List Bool} {n : Int} {j : Nat} (h : PInv d hi lo fill (y :: fl) sg n j) : 0 ≤ y ∧ y ≤ 20 ∧ fill + y ≤ hi + 40 * (d : Int) := by
  have h1 := h.room
  have h2 := h.rng y (List.mem_cons_self ..)
  have h3 := sum_le20 fl fun x hx => h.rng x (List.mem_cons_of_mem _ hx)
  simp only [List.sum_cons] at h1
  omega
theorem PInv.tick {d : Nat} {hi lo fill y : Int} {fl : List Int} {b : Bool} {sg : List Bool} {n : Int} {j : Nat} (h : PInv d hi lo fill (y :: fl) (b :: sg) n j) {o dr : Int} (o0 : 0 ≤ o) (o1 : o ≤ 20) (d0 : 0 ≤ dr) (pa : Bool) :
    ∃ j', PInv d hi lo (max (fill + y - dr) 0) (fl ++ [sent1 b o]) (sg ++ [paus1 hi lo (max (fill + y - dr) 0) pa]) (n + sent1 b o) j' := by
  obtain ⟨k1, k2, k3, k4, k5, k6, k7, k8, k9, k10, k11, k12, k13⟩ := h
  have hy := k9 y (List.mem_cons_self ..)
  have hfl : ∀ x ∈ fl, 0 ≤ x ∧ x ≤ 20 := fun x hx => k9 x (List.mem_cons_of_mem _ hx)
  have hs : 0 ≤ sent1 b o ∧ sent1 b o ≤ 20 := by unfold sent1; split <;> omega
  have hfs := sum_le20 fl hfl
  simp only [List.sum_cons, List.length_cons] at k7 k8 k10 k13
  have hm : max (fill + y - dr) 0 ≤ fill + y := by omega
  have hm0 : 0 ≤ max (fill + y - dr) 0 := by omega
  generalize hF : max (fill + y - dr) 0 = F at *
  generalize hS : sent1 b o = S at *
  have hsum : (fl ++ [S]).sum = fl.sum + S := by simp
  have hrng : ∀ x ∈ fl ++ [S], 0 ≤ x ∧ x ≤ 20 := by
    intro x hx
    rcases List.mem_append.1 hx with hx | hx
    · exact hfl x hx
    · rw [List.mem_singleton] at hx; subst hx; exact hs
  cases hp : paus1 hi lo F pa with
  | false =>
    have hF2 : F ≤ hi := by
      unfold paus1 at hp
      split at hp
      · omega
      · split at hp
        · cases hp
        · omega
    refine ⟨0, k1, k2, k3, k4, k5, hm0, by simp; omega, by simp; omega, hrng, by rw [hsum]; omega, Nat.zero_le _, fun i hi' h' => ?_, by rw [hsum]; omega⟩
    simp at h'; omega
  | true =>
    by_cases hj : j < d
    · refine ⟨j + 1, k1, k2, k3, k4, k5, hm0, by simp; omega, by simp; omega, hrng, by rw [hsum]; omega, hj, fun i hi' h' => ?_, by rw [hsum]; omega⟩
      by_cases hi2 : i < sg.length
      · rw [List.getElem_append_left hi2]
        have := k12 (i + 1) (by omega) (by simp; omega)
        simpa using this
      · rw [List.getElem_append_right (by omega)]
        simp
    · have hb : b = true := by have := k12 0 (by omega) (by simp); simpa using this
      have hS0 : S = 0 := by rw [← hS, hb]; rfl
      refine ⟨j, k1, k2, k3, k4, k5, hm0, by simp; omega, by simp; omega, hrng, by rw [hsum]; omega, k11, fun i hi' h' => ?_, by rw [hsum]; omega⟩
      by_cases hi2 : i < sg.length
      · rw [List.getElem_append_left hi2]
        have := k12 (i + 1) (by omega) (by simp; omega)
        simpa using this
      · rw [List.getElem_append_right (by omega)]
        simp
theorem PInv.new {d : Nat} {hi lo : Int} (d1 : 1 ≤ d) (d4 : d ≤ 4) (l0 : 0 ≤ lo) (lh : lo ≤ hi) (h0 : hi ≤ 59) : PInv d hi lo 0 (List.replicate d 0) (List.replicate d false) 0 0 := by
  have h1 : (List.replicate d (0 : Int)).sum = 0 := by simp
  refine ⟨d1, d4, l0, lh, h0, Int.le_refl _, by simp, by simp, fun x hx => ?_, by rw [h1]; omega, Nat.zero_le _, fun i hi' h' => ?_, by rw [h1]; omega⟩
  · rw [List.mem_replicate] at hx; omega
  · simp at h'; omega
end Go
