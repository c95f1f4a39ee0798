/- hasInt, copyFilter, DropVlan and the reference's. -/
import Derived.Test.YtlpipllhbobfbaaRows
import Derived.Test.YtlpipllhbobfbaaFilt
import Derived.Test.YtlpipllhbobfbaaCopy
namespace Go.Proofs.Ytlpipllhbobfbaa
open Go.RowKit
set_option linter.unusedVariables false

def hasB (xs : List Int) (n : Int) : Bool := decide (n ∈ xs)
theorem hasB_at {xs : List Int} {n : Int} {k : Nat} (h : k < xs.length) (e : xs[k] = n) : hasB xs n = true := by
  unfold hasB; simp; exact e ▸ List.getElem_mem h
theorem hasB_no {xs : List Int} {n : Int} (h : ∀ k (hk : k < xs.length), xs[k] ≠ n) : hasB xs n = false := by
  unfold hasB; simp
  intro hm
  obtain ⟨k, hk, e⟩ := List.getElem_of_mem hm
  exact h k hk e

set_option maxHeartbeats 400000 in
theorem hasInt_any (v : Value) (xs : List Int) (n : Int) (w : World) (k1 : Holds w xs [v]) :
    Calls Try.prog 84 #[v, .int .i64 n] w fun e w' => e = .returned (.bool (hasB xs n)) ∧ w = w' := by
  obtain ⟨a, cap, hv, h1, h2, h3, _⟩ := k1.ints
  simp only [List.cons.injEq, and_true] at hv
  subst hv
  unfold maxLen at h2
  clear k1
  go_enter Try.func84, Try.ntmps84
  go_wp2
  go_loop [9] (fun i => ∃ k : Nat, k ≤ xs.length ∧ i = .int .i64 k ∧ ∀ j (hj : j < xs.length), j < k → xs[j] ≠ n) (fun i => xs.length - (intOf i).toNat)
  case atStart => exact ⟨0, Nat.zero_le _, rfl, fun j _ hj => by omega⟩
  case round =>
    obtain ⟨k, hk, rfl, hb⟩ := hrel
    have HB := hid hb
    clear hb
    by_cases hlt : k < xs.length
    · obtain ⟨b, off, rfl, hc⟩ := h3 k hlt
      by_cases hq : xs[k] = n
      · have HV := hid (hasB_at hlt hq)
        have hq' : (xs[k] == n) = true := by simpa using hq
        clear hq h3
        go_wp2
        go_ret
        exact ⟨ret_bool HV.out.symm, rfl⟩
      · have hq' : (xs[k] == n) = false := by simpa using hq
        have HQ := hid hq
        clear hq h3
        go_wp2
        go_round
        case rel => exact ⟨k + 1, by omega, by go_num, fun j hj hjk => by
                      by_cases e : j = k
                      · subst e; exact HQ.out
                      · exact HB.out j hj (by omega)⟩
        case measure => simp [intOf]; omega
    · have HV := hid (hasB_no (xs := xs) (n := n) (fun j hj => HB.out j hj (by omega)))
      clear h3
      go_wp2
      go_ret
      exact ⟨ret_bool HV.out.symm, rfl⟩

set_option maxHeartbeats 400000 in
theorem l24Has_any (v : Value) (xs : List Int) (n : Int) (w : World) (k1 : Holds w xs [v]) :
    Calls Try.prog 81 #[v, .int .i64 n] w fun e w' => e = .returned (.bool (hasB xs n)) ∧ w = w' := by
  obtain ⟨a, cap, hv, h1, h2, h3, _⟩ := k1.ints
  simp only [List.cons.injEq, and_true] at hv
  subst hv
  unfold maxLen at h2
  clear k1
  go_enter Try.func81, Try.ntmps81
  go_wp2
  go_loop [5] (fun i => ∃ k : Nat, k ≤ xs.length ∧ i = .int .i64 k ∧ ∀ j (hj : j < xs.length), j < k → xs[j] ≠ n) (fun i => xs.length - (intOf i).toNat)
  case atStart => exact ⟨0, Nat.zero_le _, rfl, fun j _ hj => by omega⟩
  case round =>
    obtain ⟨k, hk, rfl, hb⟩ := hrel
    have HB := hid hb
    clear hb
    by_cases hlt : k < xs.length
    · obtain ⟨b, off, rfl, hc⟩ := h3 k hlt
      by_cases hq : xs[k] = n
      · have HV := hid (hasB_at hlt hq)
        have hq' : (xs[k] == n) = true := by simpa using hq
        clear hq h3
        go_wp2
        go_ret
        exact ⟨ret_bool HV.out.symm, rfl⟩
      · have hq' : (xs[k] == n) = false := by simpa using hq
        have HQ := hid hq
        clear hq h3
        go_wp2
        go_round
        case rel => exact ⟨k + 1, by omega, by go_num, fun j hj hjk => by
                      by_cases e : j = k
                      · subst e; exact HQ.out
                      · exact HB.out j hj (by omega)⟩
        case measure => simp [intOf]; omega
    · have HV := hid (hasB_no (xs := xs) (n := n) (fun j hj => HB.out j hj (by omega)))
      clear h3
      go_wp2
      go_ret
      exact ⟨ret_bool HV.out.symm, rfl⟩

theorem hasInt_v (v : Value) (xs : List Int) (n : Int) (w : World) (k1 : Holds w xs [v]) {q : Bool} (hq : hasB xs n = q) :
    Calls Try.prog 84 #[v, .int .i64 n] w fun e w' => e = .returned (.bool q) ∧ w = w' := hq ▸ hasInt_any v xs n w k1

theorem l24Has_v (v : Value) (xs : List Int) (n : Int) (w : World) (k1 : Holds w xs [v]) {q : Bool} (hq : hasB xs n = q) :
    Calls Try.prog 81 #[v, .int .i64 n] w fun e w' => e = .returned (.bool q) ∧ w = w' := hq ▸ l24Has_any v xs n w k1

theorem filterOk_v (mac : Int) (pr : Bool) (v : Value) (xs : List Int) (w : World) (k1 : Holds w xs [v]) {q : Bool} (hq : filterOkB mac xs = q) :
    Calls Try.prog 83 #[.agg #[.int .i64 mac, .bool pr, v]] w fun e w' => e = .returned (.bool q) ∧ Ex w w' := hq ▸ filterOk_any mac pr v xs w k1

theorem filterOkS_v (mac : Int) (pr : Bool) (v : Value) (xs : List Int) (w : World) (k1 : Holds w xs [v]) {q : Bool} (hq : filterOkB mac xs = q) :
    Calls Try.prog 80 #[.agg #[.int .i64 mac, .bool pr, v]] w fun e w' => e = .returned (.bool q) ∧ Ex w w' := hq ▸ filterOkS_any mac pr v xs w k1

set_option maxHeartbeats 400000 in
theorem copyFilter_any (mac : Int) (pr : Bool) (v : Value) (xs : List Int) (w : World) (k1 : Holds w xs [v]) (hl : xs.length ≤ 1099511627776) :
    Calls Try.prog 89 #[.agg #[.int .i64 mac, .bool pr, v]] w (RetFilter w mac pr xs) := by
  obtain ⟨a, cap, hv, h1, h2, _, h4⟩ := k1.ints
  simp only [List.cons.injEq, and_true] at hv
  subst hv
  unfold maxLen at h2

  go_enter Try.func89, Try.ntmps89
  go_wp2_with (go_at_call 108; (with_reducible refine (copyInts_any _ xs _ (k1.ex (by repeat (first | exact Ex.refl _ | apply Ex.plus_add | apply Ex.plus_drew | apply Ex.plus | apply Ex.alloc | apply Ex.drew))) hl).mono ?_); rintro e w' ⟨a1, c1, rfl, ho, hx⟩; obtain ⟨g, rfl⟩ := hx)
  refine bodyPost_ret (v := _) (by simp [results, Try.results89, go_sem] <;> rfl) rfl ⟨a1, c1, rfl, ?_, ?_⟩
  · exact (ho.agr (Agr.plus (by simp) (Nat.le_refl _))).lower (by simp; omega)
  · exact (by repeat (first | exact Ex.refl _ | apply Ex.plus_add | apply Ex.plus_drew | apply Ex.plus | apply Ex.alloc | apply Ex.drew))

set_option maxRecDepth 100000 in
set_option maxHeartbeats 1000000 in
theorem l24Copy_any (mac : Int) (pr : Bool) (v : Value) (xs : List Int) (w : World) (k1 : Holds w xs [v]) (hl : xs.length ≤ 1099511627776) :
    Calls Try.prog 88 #[.agg #[.int .i64 mac, .bool pr, v]] w (RetFilter w mac pr xs) := by
  obtain ⟨a, cap, hv, h1, h2, _, h4⟩ := k1.ints
  simp only [List.cons.injEq, and_true] at hv
  subst hv
  unfold maxLen at h2

  go_enter Try.func88, Try.ntmps88
  go_wp2
  refine wp_region_mix [(0, 0), (1, 0), (2, 0), (3, 0), (5, 0), (6, 0), (4, 1), (7, 1), (8, 1), (9, 2)] (by kernel_rfl) (by kernel_rfl) ?_
  first | refine wpMix_skip rfl rfl ?_ | (refine wpMix_early rfl rfl ?_; intro K hK; go_big_quiet_op; go_big_quiet_on)
  first | refine wpMix_skip rfl rfl ?_ | (refine wpMix_early rfl rfl ?_; intro K hK; go_big_quiet_op; go_big_quiet_on)
  first | refine wpMix_skip rfl rfl ?_ | (refine wpMix_early rfl rfl ?_; intro K hK; go_big_quiet_op; go_big_quiet_on)
  first | refine wpMix_skip rfl rfl ?_ | (refine wpMix_early rfl rfl ?_; intro K hK; go_big_quiet_op; go_big_quiet_on)
  first | refine wpMix_skip rfl rfl ?_ | (refine wpMix_early rfl rfl ?_; intro K hK; go_big_quiet_op; go_big_quiet_on)
  first | refine wpMix_skip rfl rfl ?_ | (refine wpMix_early rfl rfl ?_; intro K hK; go_big_quiet_op; go_big_quiet_on)
  first | refine wpMix_skip rfl rfl ?_ | (refine wpMix_forced rfl rfl ?_; intro K hK; go_simp; refine hK _ _ (show Ex _ _ from (by repeat (first | exact Ex.refl _ | apply Ex.plus_add | apply Ex.plus_drew | apply Ex.plus | apply Ex.alloc | apply Ex.drew | apply Ex.upd0 | refine Ex.upd1 ?_ (by first | omega | (simp; done) | (simp; omega)) | refine Ex.updS ?_ (by first | omega | (simp; done) | (simp; omega))))) ?_; clear hK K)
  first | refine wpMix_skip rfl rfl ?_ | (refine wpMix_forced rfl rfl ?_; intro K hK; (refine wp_app (.tmp 7) (.tmp 9) 33 33 rfl 3 (.int .i64 0) 1 8 Try.underlying33 info_int rfl (w.heap.size + 1 + 1) (.slice (some ⟨w.heap.size + 1 + 1, 0, none⟩) 0 0) 0 [] rfl (by first | exact Slot.madeD (by simp) (by omega) | exact Slot.madeN (by simp) (by omega)) _ xs.length (xs.map (Value.int .i64)) rfl ((k1.ex (by repeat (first | exact Ex.refl _ | apply Ex.plus_add | apply Ex.plus_drew | apply Ex.plus | apply Ex.alloc | apply Ex.drew))).srcInts Try.underlying33) (by unfold maxLen; omega) (by omega) (by simp; try omega) ?_; intro v1 f1 g1 hs1 hb1; rw [Nat.zero_add, List.nil_append] at hs1; obtain ⟨a1, c1, rfl, _⟩ := hs1.form); (try go_simp); refine hK _ _ (show Ex _ _ from (by repeat (first | exact Ex.refl _ | apply Ex.plus_add | apply Ex.plus_drew | apply Ex.plus | apply Ex.alloc | apply Ex.drew | apply Ex.upd0 | refine Ex.upd1 ?_ (by first | omega | (simp; done) | (simp; omega)) | refine Ex.updS ?_ (by first | omega | (simp; done) | (simp; omega))))) ?_; clear hK K)
  first | refine wpMix_skip rfl rfl ?_ | (refine wpMix_forced rfl rfl ?_; intro K hK; go_simp; refine hK _ _ (show Ex _ _ from (by repeat (first | exact Ex.refl _ | apply Ex.plus_add | apply Ex.plus_drew | apply Ex.plus | apply Ex.alloc | apply Ex.drew | apply Ex.upd0 | refine Ex.upd1 ?_ (by first | omega | (simp; done) | (simp; omega)) | refine Ex.updS ?_ (by first | omega | (simp; done) | (simp; omega))))) ?_; clear hK K)
  first | refine wpMix_skip rfl rfl ?_ | (refine wpMix_last rfl rfl ?_; intro K hK; go_simp; refine hK _ _ ?_; clear hK K)
  refine wpMix_nil ?_
  go_wp2
  rw [blk_some] at hs1
  obtain ⟨_, ho⟩ := hs1.ints h4
  refine bodyPost_ret (v := _) (by simp [results, Try.results88, go_sem] <;> rfl) rfl ⟨a1, c1, rfl, ?_, ?_⟩
  · exact (ho.agr (by repeat (first | (refine Agr.of_le ?_; (first | (simp; done) | omega | (simp; omega))) | (refine Agr.plus' ?_ ?_ _; focus simp) | (refine Agr.upd' ?_ ?_ _ _; focus simp) | (refine Agr.alloc' ?_ ?_ _; focus simp) | (with_reducible apply Agr.drewL) | (with_reducible apply Agr.drewR)))).lower (by omega)
  · exact (by repeat (first | exact Ex.refl _ | apply Ex.plus_add | apply Ex.plus_drew | apply Ex.plus | apply Ex.alloc | apply Ex.drew | apply Ex.upd0 | refine Ex.upd1 ?_ (by first | omega | (simp; done) | (simp; omega)) | refine Ex.updS ?_ (by first | omega | (simp; done) | (simp; omega))))

end Go.Proofs.Ytlpipllhbobfbaa
