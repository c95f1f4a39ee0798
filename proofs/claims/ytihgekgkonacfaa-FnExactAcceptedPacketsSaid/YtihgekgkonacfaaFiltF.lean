/- hasInt, copyFilter, DropVlan and the reference's. -/
import Derived.Test.YtihgekgkonacfaaRows
import Derived.Test.YtihgekgkonacfaaFilt
import Derived.Test.YtihgekgkonacfaaCopy
namespace Go.Proofs.Ytihgekgkonacfaa
open Go.RowKit
set_option linter.unusedVariables false

def hasB (xs : List Int) (n : Int) : Bool := decide (n ∈ xs)
theorem hasB_at {xs : List Int} {n : Int} {k : Nat} (h : k < xs.length) (e : xs[k] = n) : hasB xs n = true := by
  unfold hasB; simp; exact e ▸ List.getElem_mem h
theorem hasB_no {xs : List Int} {n : Int} (h : ∀ k (hk : k < xs.length), xs[k] ≠ n) : hasB xs n = false := by
  unfold hasB; simp
  intro hm
  obtain ⟨k, hk, e⟩ := List.getElem_of_mem hm
  exact h k hk e

set_option maxHeartbeats 400000 in
theorem hasInt_any (v : Value) (xs : List Int) (n : Int) (w : World) (k1 : Holds w xs [v]) :
    Calls Try.prog 27 #[v, .int .i64 n] w fun e w' => e = .returned (.bool (hasB xs n)) ∧ w = w' := by
  obtain ⟨a, cap, hv, h1, h2, h3, _⟩ := k1.ints
  simp only [List.cons.injEq, and_true] at hv
  subst hv
  unfold maxLen at h2
  clear k1
  go_enter Try.func27, Try.ntmps27
  go_wp2
  go_loop [9] (fun i => ∃ k : Nat, k ≤ xs.length ∧ i = .int .i64 k ∧ ∀ j (hj : j < xs.length), j < k → xs[j] ≠ n) (fun i => xs.length - (intOf i).toNat)
  case atStart => exact ⟨0, Nat.zero_le _, rfl, fun j _ hj => by omega⟩
  case round =>
    obtain ⟨k, hk, rfl, hb⟩ := hrel
    have HB := hid hb
    clear hb
    by_cases hlt : k < xs.length
    · obtain ⟨b, off, rfl, hc⟩ := h3 k hlt
      by_cases hq : xs[k] = n
      · have HV := hid (hasB_at hlt hq)
        have hq' : (xs[k] == n) = true := by simpa using hq
        clear hq h3
        go_wp2
        go_ret
        exact ⟨ret_bool HV.out.symm, rfl⟩
      · have hq' : (xs[k] == n) = false := by simpa using hq
        have HQ := hid hq
        clear hq h3
        go_wp2
        go_round
        case rel => exact ⟨k + 1, by omega, by go_num, fun j hj hjk => by
                      by_cases e : j = k
                      · subst e; exact HQ.out
                      · exact HB.out j hj (by omega)⟩
        case measure => simp [intOf]; omega
    · have HV := hid (hasB_no (xs := xs) (n := n) (fun j hj => HB.out j hj (by omega)))
      clear h3
      go_wp2
      go_ret
      exact ⟨ret_bool HV.out.symm, rfl⟩

set_option maxHeartbeats 400000 in
theorem l24Has_any (v : Value) (xs : List Int) (n : Int) (w : World) (k1 : Holds w xs [v]) :
    Calls Try.prog 52 #[v, .int .i64 n] w fun e w' => e = .returned (.bool (hasB xs n)) ∧ w = w' := by
  obtain ⟨a, cap, hv, h1, h2, h3, _⟩ := k1.ints
  simp only [List.cons.injEq, and_true] at hv
  subst hv
  unfold maxLen at h2
  clear k1
  go_enter Try.func52, Try.ntmps52
  go_wp2
  go_loop [5] (fun i => ∃ k : Nat, k ≤ xs.length ∧ i = .int .i64 k ∧ ∀ j (hj : j < xs.length), j < k → xs[j] ≠ n) (fun i => xs.length - (intOf i).toNat)
  case atStart => exact ⟨0, Nat.zero_le _, rfl, fun j _ hj => by omega⟩
  case round =>
    obtain ⟨k, hk, rfl, hb⟩ := hrel
    have HB := hid hb
    clear hb
    by_cases hlt : k < xs.length
    · obtain ⟨b, off, rfl, hc⟩ := h3 k hlt
      by_cases hq : xs[k] = n
      · have HV := hid (hasB_at hlt hq)
        have hq' : (xs[k] == n) = true := by simpa using hq
        clear hq h3
        go_wp2
        go_ret
        exact ⟨ret_bool HV.out.symm, rfl⟩
      · have hq' : (xs[k] == n) = false := by simpa using hq
        have HQ := hid hq
        clear hq h3
        go_wp2
        go_round
        case rel => exact ⟨k + 1, by omega, by go_num, fun j hj hjk => by
                      by_cases e : j = k
                      · subst e; exact HQ.out
                      · exact HB.out j hj (by omega)⟩
        case measure => simp [intOf]; omega
    · have HV := hid (hasB_no (xs := xs) (n := n) (fun j hj => HB.out j hj (by omega)))
      clear h3
      go_wp2
      go_ret
      exact ⟨ret_bool HV.out.symm, rfl⟩

theorem hasInt_v (v : Value) (xs : List Int) (n : Int) (w : World) (k1 : Holds w xs [v]) {q : Bool} (hq : hasB xs n = q) :
    Calls Try.prog 27 #[v, .int .i64 n] w fun e w' => e = .returned (.bool q) ∧ w = w' := hq ▸ hasInt_any v xs n w k1

theorem l24Has_v (v : Value) (xs : List Int) (n : Int) (w : World) (k1 : Holds w xs [v]) {q : Bool} (hq : hasB xs n = q) :
    Calls Try.prog 52 #[v, .int .i64 n] w fun e w' => e = .returned (.bool q) ∧ w = w' := hq ▸ l24Has_any v xs n w k1

theorem filterOk_v (mac : Int) (pr : Bool) (v : Value) (xs : List Int) (w : World) (k1 : Holds w xs [v]) {q : Bool} (hq : filterOkB mac xs = q) :
    Calls Try.prog 12 #[.agg #[.int .i64 mac, .bool pr, v]] w fun e w' => e = .returned (.bool q) ∧ Ex w w' := hq ▸ filterOk_any mac pr v xs w k1

theorem filterOkS_v (mac : Int) (pr : Bool) (v : Value) (xs : List Int) (w : World) (k1 : Holds w xs [v]) {q : Bool} (hq : filterOkB mac xs = q) :
    Calls Try.prog 51 #[.agg #[.int .i64 mac, .bool pr, v]] w fun e w' => e = .returned (.bool q) ∧ Ex w w' := hq ▸ filterOkS_any mac pr v xs w k1

set_option maxHeartbeats 400000 in
theorem copyFilter_any (mac : Int) (pr : Bool) (v : Value) (xs : List Int) (w : World) (k1 : Holds w xs [v]) (hl : xs.length ≤ 1099511627776) :
    Calls Try.prog 26 #[.agg #[.int .i64 mac, .bool pr, v]] w (RetFilter w mac pr xs) := by
  obtain ⟨a, cap, hv, h1, h2, _, h4⟩ := k1.ints
  simp only [List.cons.injEq, and_true] at hv
  subst hv
  unfold maxLen at h2

  go_enter Try.func26, Try.ntmps26
  go_wp2_with (go_at_call 49; (with_reducible refine (copyInts_any _ xs _ (k1.ex (by repeat (first | exact Ex.refl _ | apply Ex.plus_add | apply Ex.plus_drew | apply Ex.plus | apply Ex.alloc | apply Ex.drew))) hl).mono ?_); rintro e w' ⟨a1, c1, rfl, ho, hx⟩; obtain ⟨g, rfl⟩ := hx)
  refine bodyPost_ret (v := _) (by simp [results, Try.results26, go_sem] <;> rfl) rfl ⟨a1, c1, rfl, ?_, ?_⟩
  · exact (ho.agr (Agr.plus (by simp) (Nat.le_refl _))).lower (by simp; omega)
  · exact (by repeat (first | exact Ex.refl _ | apply Ex.plus_add | apply Ex.plus_drew | apply Ex.plus | apply Ex.alloc | apply Ex.drew))

end Go.Proofs.Ytihgekgkonacfaa
