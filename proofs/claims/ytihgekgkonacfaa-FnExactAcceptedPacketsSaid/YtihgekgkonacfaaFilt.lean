/- FilterOk, the program's and the reference's; the law helpers over a Filter. -/
import Derived.Test.YtihgekgkonacfaaRows
import Derived.Test.YtihgekgkonacfaaInts
import Derived.Test.YtihgekgkonacfaaScal
namespace Go.Proofs.Ytihgekgkonacfaa
open Go.RowKit
set_option linter.unusedVariables false

def vlanBad (xs : List Int) (k : Nat) : Bool := !inB (xs.getD k 0) 0 4095 || (decide (0 < k) && decide (xs.getD k 0 ≤ xs.getD (k - 1) 0))
def vlansB (xs : List Int) : Bool := (List.range xs.length).all fun k => !vlanBad xs k
def filterOkB (mac : Int) (vl : List Int) : Bool := vlansB vl && inB mac 0 281474976710654 && decide (vl.length ≤ 8)
theorem vlansB_bad {xs : List Int} {k : Nat} (h : k < xs.length) (hb : vlanBad xs k = true) (mac : Int) : filterOkB mac xs = false := by
  have : vlansB xs = false := by
    unfold vlansB
    rw [List.all_eq_false]
    exact ⟨k, List.mem_range.2 h, by simp [hb]⟩
  simp [filterOkB, this]
theorem vlansB_all {xs : List Int} (h : ∀ k, k < xs.length → vlanBad xs k = false) (mac : Int) : filterOkB mac xs = (inB mac 0 281474976710654 && decide (xs.length ≤ 8)) := by
  have : vlansB xs = true := by
    unfold vlansB
    rw [List.all_eq_true]
    intro k hk
    simp [h k (List.mem_range.1 hk)]
  simp [filterOkB, this]
def RetFilter (w : World) (mac : Int) (pr : Bool) (vl : List Int) (e : Ending) (w' : World) : Prop :=
  ∃ a cap, e = .returned (.agg #[.int .i64 mac, .bool pr, .slice a vl.length cap]) ∧ Owns w.heap.size w' vl [.slice a vl.length cap] ∧ Ex w w'

set_option maxHeartbeats 1000000 in
theorem filterOk_any (mac : Int) (pr : Bool) (v : Value) (xs : List Int) (w : World) (k1 : Holds w xs [v]) :
    Calls Try.prog 12 #[.agg #[.int .i64 mac, .bool pr, v]] w fun e w' => e = .returned (.bool (filterOkB mac xs)) ∧ Ex w w' := by
  obtain ⟨a, cap, hv, h1, h2, h3, h4⟩ := k1.ints
  simp only [List.cons.injEq, and_true] at hv
  subst hv
  unfold maxLen at h2
  clear k1 h4
  go_enter Try.func12, Try.ntmps12
  go_wp2
  go_loopw [8] (fun i wr => ∃ k : Nat, k ≤ xs.length ∧ i = .int .i64 k ∧ Ex (w.alloc (.cells #[.int .i64 mac, .bool pr, .slice a xs.length cap] 38)) wr ∧ ∀ j, j < k → vlanBad xs j = false) (fun i _ => xs.length - (intOf i).toNat)
  case atStart => exact ⟨0, Nat.zero_le _, rfl, Ex.refl _, fun j hj => by omega⟩
  case round =>
    obtain ⟨k, hk, rfl, hx, hb⟩ := hrel
    have HX := hid hx
    have HB := hid hb
    have d0 : wr.cell? ⟨w.heap.size, 0, none⟩ = some (.int .i64 mac) := by rw [hx.cell (by simp)]; simp
    have d2 : wr.cell? ⟨w.heap.size, 2, none⟩ = some (.slice a xs.length cap) := by rw [hx.cell (by simp)]; simp
    have lw : w.heap.size < wr.heap.size := by have := hx.size; simp at this; omega
    clear hx hb
    by_cases hlt : k < xs.length
    · obtain ⟨b, off, ha, hc⟩ := h3 k hlt
      have c1 := (HX.out.cell (by have := World.block_lt_of_cell? _ _ hc; simp; exact Nat.lt_succ_of_lt this)).trans ((World.cell?_alloc_lt _ _ _ (World.block_lt_of_cell? _ _ hc)).trans hc)
      have l1 := World.block_lt_of_cell? _ _ c1
      have e1 : xs.getD k 0 = xs[k] := by simp [List.getD, List.getElem?_eq_getElem hlt]
      cases g1 : inB xs[k] 0 4095
      · have HV := hid (vlansB_bad hlt (show vlanBad xs k = true by unfold vlanBad; rw [e1, g1]; rfl) mac)
        have H1 := hid g1
        subst ha
        clear g1 h3 hc e1
        go_wp2_with (first
              | (go_at_call 29; (with_reducible refine (between_v H1.out _).mono ?_); rintro e w' ⟨rfl, rfl⟩))
        go_ret
        exact ⟨ret_bool HV.out.symm, (((Ex.refl _).alloc _).trans (HX.out)).trans (by repeat (first | exact Ex.refl _ | apply Ex.plus_add | apply Ex.plus_drew | apply Ex.plus | apply Ex.alloc | apply Ex.drew))⟩
      · by_cases k0 : k = 0
        · subst k0
          simp only [Nat.add_zero] at c1
          have HV := hid (show vlanBad xs 0 = false by unfold vlanBad; rw [e1, g1]; rfl)
          have H1 := hid g1
          subst ha
          clear g1 h3 hc e1
          go_wp2_with (first
                | (go_at_call 29; (with_reducible refine (between_v H1.out _).mono ?_); rintro e w' ⟨rfl, rfl⟩))
          go_roundw
          case rel => exact ⟨1, by omega, by go_num, HX.out.trans (by repeat (first | exact Ex.refl _ | apply Ex.plus_add | apply Ex.plus_drew | apply Ex.plus | apply Ex.alloc | apply Ex.drew)), fun j hj => by rw [show j = 0 from by omega]; exact HV.out⟩
          case measure => simp [intOf]; omega
        · have hl2 : k - 1 < xs.length := by omega
          obtain ⟨b', off', ha', hc'⟩ := h3 (k - 1) hl2
          rw [ha] at ha'
          simp only [Option.some.injEq, Addr.mk.injEq, and_true] at ha'
          obtain ⟨rfl, rfl⟩ := ha'
          have c2 := (HX.out.cell (by have := World.block_lt_of_cell? _ _ hc'; simp; exact Nat.lt_succ_of_lt this)).trans ((World.cell?_alloc_lt _ _ _ (World.block_lt_of_cell? _ _ hc')).trans hc')
          have e2 : xs.getD (k - 1) 0 = xs[k - 1] := by simp [List.getD, List.getElem?_eq_getElem hl2]
          have p1 : (0 : Int) < k := by omega
          have p2 : decide ((0 : Int) < k) = true := by simpa using p1
          have p3 : (0 : Int) ≤ (k : Int) - 1 := by omega
          have p4 : (k : Int) - 1 < xs.length := by omega
          have p5 : ((k : Int) - 1).toNat = k - 1 := by omega
          have p6 : (1 : Int) ≤ k := by omega
          have p7 : (k : Int) < xs.length + 1 := by omega
          have p8 : 1 ≤ k := by omega
          have p9 : k < xs.length + 1 := by omega
          have p10 : decide (0 < k) = true := by simp; omega
          have p11 : 0 < k := by omega
          rcases Int.lt_or_le xs[k - 1] xs[k] with g2 | g2
          · have HV := hid (show vlanBad xs k = false by
              unfold vlanBad; rw [e1, e2, g1]; simp; intro _; omega)
            have g3 : decide (xs[k] ≤ xs[k - 1]) = false := by simp; omega
            have H1 := hid g1
            subst ha
            clear g1 h3 hc hc' e1 e2
            go_wp2_with (first
                  | (go_at_call 29; (with_reducible refine (between_v H1.out _).mono ?_); rintro e w' ⟨rfl, rfl⟩))
            go_roundw
            case rel => exact ⟨k + 1, by omega, by go_num, HX.out.trans (by repeat (first | exact Ex.refl _ | apply Ex.plus_add | apply Ex.plus_drew | apply Ex.plus | apply Ex.alloc | apply Ex.drew)), fun j hj => by
                          by_cases e : j = k
                          · subst e; exact HV.out
                          · exact HB.out j (by omega)⟩
            case measure => simp [intOf]; omega
          · have HV := hid (vlansB_bad hlt (show vlanBad xs k = true by
              unfold vlanBad; rw [e1, e2, g1]; simp; omega) mac)
            have g3 : decide (xs[k] ≤ xs[k - 1]) = true := by simp; omega
            have H1 := hid g1
            subst ha
            clear g1 h3 hc hc' e1 e2
            go_wp2_with (first
                  | (go_at_call 29; (with_reducible refine (between_v H1.out _).mono ?_); rintro e w' ⟨rfl, rfl⟩))
            go_ret
            exact ⟨ret_bool HV.out.symm, (((Ex.refl _).alloc _).trans (HX.out)).trans (by repeat (first | exact Ex.refl _ | apply Ex.plus_add | apply Ex.plus_drew | apply Ex.plus | apply Ex.alloc | apply Ex.drew))⟩
    · have e : k = xs.length := by omega
      have HV := hid (vlansB_all (xs := xs) (fun j hj => HB.out j (by omega)) mac)
      clear e h3
      cases m1 : inB mac 0 281474976710654
      · have M1 := hid m1
        clear m1
        go_wp2_with (first
      | (go_at_call 29; (with_reducible refine (between_v M1.out _).mono ?_); rintro e w' ⟨rfl, rfl⟩))
        go_ret
        exact ⟨ret_bool (by rw [HV.out, M1.out]; rfl), (((Ex.refl _).alloc _).trans (HX.out)).trans (by repeat (first | exact Ex.refl _ | apply Ex.plus_add | apply Ex.plus_drew | apply Ex.plus | apply Ex.alloc | apply Ex.drew))⟩
      · have M1 := hid m1
        clear m1
        go_wp2_with (first
      | (go_at_call 29; (with_reducible refine (between_v M1.out _).mono ?_); rintro e w' ⟨rfl, rfl⟩))
        go_ret
        exact ⟨ret_bool (by rw [HV.out, M1.out, Bool.eq_iff_iff]; simp; try omega), (((Ex.refl _).alloc _).trans (HX.out)).trans (by repeat (first | exact Ex.refl _ | apply Ex.plus_add | apply Ex.plus_drew | apply Ex.plus | apply Ex.alloc | apply Ex.drew))⟩

set_option maxHeartbeats 1000000 in
theorem filterOkS_any (mac : Int) (pr : Bool) (v : Value) (xs : List Int) (w : World) (k1 : Holds w xs [v]) :
    Calls Try.prog 51 #[.agg #[.int .i64 mac, .bool pr, v]] w fun e w' => e = .returned (.bool (filterOkB mac xs)) ∧ Ex w w' := by
  obtain ⟨a, cap, hv, h1, h2, h3, h4⟩ := k1.ints
  simp only [List.cons.injEq, and_true] at hv
  subst hv
  unfold maxLen at h2
  clear k1 h4
  go_enter Try.func51, Try.ntmps51
  go_wp2
  go_loopw [3] (fun i wr => ∃ k : Nat, k ≤ xs.length ∧ i = .int .i64 k ∧ Ex (w.alloc (.cells #[.int .i64 mac, .bool pr, .slice a xs.length cap] 38)) wr ∧ ∀ j, j < k → vlanBad xs j = false) (fun i _ => xs.length - (intOf i).toNat)
  case atStart => exact ⟨0, Nat.zero_le _, rfl, Ex.refl _, fun j hj => by omega⟩
  case round =>
    obtain ⟨k, hk, rfl, hx, hb⟩ := hrel
    have HX := hid hx
    have HB := hid hb
    have d0 : wr.cell? ⟨w.heap.size, 0, none⟩ = some (.int .i64 mac) := by rw [hx.cell (by simp)]; simp
    have d2 : wr.cell? ⟨w.heap.size, 2, none⟩ = some (.slice a xs.length cap) := by rw [hx.cell (by simp)]; simp
    have lw : w.heap.size < wr.heap.size := by have := hx.size; simp at this; omega
    clear hx hb
    by_cases hlt : k < xs.length
    · obtain ⟨b, off, ha, hc⟩ := h3 k hlt
      have c1 := (HX.out.cell (by have := World.block_lt_of_cell? _ _ hc; simp; exact Nat.lt_succ_of_lt this)).trans ((World.cell?_alloc_lt _ _ _ (World.block_lt_of_cell? _ _ hc)).trans hc)
      have l1 := World.block_lt_of_cell? _ _ c1
      have e1 : xs.getD k 0 = xs[k] := by simp [List.getD, List.getElem?_eq_getElem hlt]
      cases g1 : inB xs[k] 0 4095
      · have HV := hid (vlansB_bad hlt (show vlanBad xs k = true by unfold vlanBad; rw [e1, g1]; rfl) mac)
        have H1 := hid g1
        subst ha
        clear g1 h3 hc e1
        go_wp2
        refine wp_region_ext (by kernel_rfl) (by kernel_rfl) ?_
        repeat (go_big_quiet_step ((go_at_call 60; first | exact Calls.ext_of_same (l01In_v H1.out _) | exact Calls.ext_of2_same (l01In_v H1.out _))))
        refine wpQuiet_nil ?_
        intro g
        go_wp2
        go_ret
        exact ⟨ret_bool HV.out.symm, (((Ex.refl _).alloc _).trans (HX.out)).trans (by repeat (first | exact Ex.refl _ | apply Ex.plus_add | apply Ex.plus_drew | apply Ex.plus | apply Ex.alloc | apply Ex.drew))⟩
      · by_cases k0 : k = 0
        · subst k0
          simp only [Nat.add_zero] at c1
          have HV := hid (show vlanBad xs 0 = false by unfold vlanBad; rw [e1, g1]; rfl)
          have H1 := hid g1
          subst ha
          clear g1 h3 hc e1
          go_wp2
          refine wp_region_ext (by kernel_rfl) (by kernel_rfl) ?_
          repeat (go_big_quiet_step ((go_at_call 60; first | exact Calls.ext_of_same (l01In_v H1.out _) | exact Calls.ext_of2_same (l01In_v H1.out _))))
          refine wpQuiet_nil ?_
          intro g
          go_wp2
          go_roundw
          case rel => exact ⟨1, by omega, by go_num, HX.out.trans (by repeat (first | exact Ex.refl _ | apply Ex.plus_add | apply Ex.plus_drew | apply Ex.plus | apply Ex.alloc | apply Ex.drew)), fun j hj => by rw [show j = 0 from by omega]; exact HV.out⟩
          case measure => simp [intOf]; omega
        · have hl2 : k - 1 < xs.length := by omega
          obtain ⟨b', off', ha', hc'⟩ := h3 (k - 1) hl2
          rw [ha] at ha'
          simp only [Option.some.injEq, Addr.mk.injEq, and_true] at ha'
          obtain ⟨rfl, rfl⟩ := ha'
          have c2 := (HX.out.cell (by have := World.block_lt_of_cell? _ _ hc'; simp; exact Nat.lt_succ_of_lt this)).trans ((World.cell?_alloc_lt _ _ _ (World.block_lt_of_cell? _ _ hc')).trans hc')
          have e2 : xs.getD (k - 1) 0 = xs[k - 1] := by simp [List.getD, List.getElem?_eq_getElem hl2]
          have p1 : (0 : Int) < k := by omega
          have p2 : decide ((0 : Int) < k) = true := by simpa using p1
          have p3 : (0 : Int) ≤ (k : Int) - 1 := by omega
          have p4 : (k : Int) - 1 < xs.length := by omega
          have p5 : ((k : Int) - 1).toNat = k - 1 := by omega
          have p6 : (1 : Int) ≤ k := by omega
          have p7 : (k : Int) < xs.length + 1 := by omega
          have p8 : 1 ≤ k := by omega
          have p9 : k < xs.length + 1 := by omega
          have p10 : decide (0 < k) = true := by simp; omega
          have p11 : 0 < k := by omega
          rcases Int.lt_or_le xs[k - 1] xs[k] with g2 | g2
          · have HV := hid (show vlanBad xs k = false by
              unfold vlanBad; rw [e1, e2, g1]; simp; intro _; omega)
            have g3 : decide (xs[k] ≤ xs[k - 1]) = false := by simp; omega
            have H1 := hid g1
            subst ha
            clear g1 h3 hc hc' e1 e2
            go_wp2
            refine wp_region_ext (by kernel_rfl) (by kernel_rfl) ?_
            repeat (go_big_quiet_step ((go_at_call 60; first | exact Calls.ext_of_same (l01In_v H1.out _) | exact Calls.ext_of2_same (l01In_v H1.out _))))
            refine wpQuiet_nil ?_
            intro g
            go_wp2
            go_roundw
            case rel => exact ⟨k + 1, by omega, by go_num, HX.out.trans (by repeat (first | exact Ex.refl _ | apply Ex.plus_add | apply Ex.plus_drew | apply Ex.plus | apply Ex.alloc | apply Ex.drew)), fun j hj => by
                          by_cases e : j = k
                          · subst e; exact HV.out
                          · exact HB.out j (by omega)⟩
            case measure => simp [intOf]; omega
          · have HV := hid (vlansB_bad hlt (show vlanBad xs k = true by
              unfold vlanBad; rw [e1, e2, g1]; simp; omega) mac)
            have g3 : decide (xs[k] ≤ xs[k - 1]) = true := by simp; omega
            have H1 := hid g1
            subst ha
            clear g1 h3 hc hc' e1 e2
            go_wp2
            refine wp_region_ext (by kernel_rfl) (by kernel_rfl) ?_
            repeat (go_big_quiet_step ((go_at_call 60; first | exact Calls.ext_of_same (l01In_v H1.out _) | exact Calls.ext_of2_same (l01In_v H1.out _))))
            refine wpQuiet_nil ?_
            intro g
            go_wp2
            go_ret
            exact ⟨ret_bool HV.out.symm, (((Ex.refl _).alloc _).trans (HX.out)).trans (by repeat (first | exact Ex.refl _ | apply Ex.plus_add | apply Ex.plus_drew | apply Ex.plus | apply Ex.alloc | apply Ex.drew))⟩
    · have e : k = xs.length := by omega
      have HV := hid (vlansB_all (xs := xs) (fun j hj => HB.out j (by omega)) mac)
      clear e h3
      cases m1 : inB mac 0 281474976710654
      · have M1 := hid m1
        clear m1
        go_wp2_with (first
      | (go_at_call 60; (with_reducible refine (l01In_v M1.out _).mono ?_); rintro e w' ⟨rfl, rfl⟩))
        go_ret
        exact ⟨ret_bool (by rw [HV.out, M1.out]; rfl), (((Ex.refl _).alloc _).trans (HX.out)).trans (by repeat (first | exact Ex.refl _ | apply Ex.plus_add | apply Ex.plus_drew | apply Ex.plus | apply Ex.alloc | apply Ex.drew))⟩
      · have M1 := hid m1
        clear m1
        go_wp2_with (first
      | (go_at_call 60; (with_reducible refine (l01In_v M1.out _).mono ?_); rintro e w' ⟨rfl, rfl⟩))
        go_ret
        exact ⟨ret_bool (by rw [HV.out, M1.out, Bool.eq_iff_iff]; simp; try omega), (((Ex.refl _).alloc _).trans (HX.out)).trans (by repeat (first | exact Ex.refl _ | apply Ex.plus_add | apply Ex.plus_drew | apply Ex.plus | apply Ex.alloc | apply Ex.drew))⟩

end Go.Proofs.Ytihgekgkonacfaa
