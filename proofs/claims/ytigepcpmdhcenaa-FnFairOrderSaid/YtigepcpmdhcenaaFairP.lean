/- FairOk of both. -/
import Derived.Test.YtigepcpmdhcenaaFair
namespace Go.Proofs.Ytigepcpmdhcenaa
open Go.RowKit
set_option linter.unusedVariables false

theorem row_bad3 {qu tu : Int} {fr : Bool} {i : Nat} {q : List Int} {d : Int} {j : Nat} (h : j < q.length) (hb : inB q[j] 1 2000 = false) : fairRowB qu tu fr i q d = false := by
  have : q.all (fun n => inB n 1 2000) = false := by
    rw [List.all_eq_false]; exact ⟨_, List.getElem_mem h, by rw [hb]; decide⟩
  simp [fairRowB, this]
theorem row_good {tu : Int} {fr : Bool} {i : Nat} {q : List Int} {d : Int} (h : q.length ≤ 64) (hc : q.length ≠ 0 ∨ (d == 0) = true ∨ (((i : Int) == tu) = true ∧ fr = false)) :
    (decide (q.length ≤ 64) && true && true && !(decide (q.length = 0) && !(d == 0) && (!((i : Int) == tu) || fr))) = true := by
  rcases hc with hc | hc | ⟨hc, rfl⟩
  · simp [h, hc]
  · simp [h, hc]
  · simp [h, hc]

set_option maxRecDepth 100000 in
set_option maxHeartbeats 4000000 in
theorem fairOk_any (v1 v2 : Value) (qs : List (List Int)) (ds : List Int) (qu tu : Int) (fr : Bool) (w : World) (k1 : Holds w qs [v1]) (k2 : Holds w ds [v2]) :
    Calls Try.prog 9 #[.agg #[v1, v2, .int .i64 qu, .int .i64 tu, .bool fr]] w fun e w' => e = .returned (.bool (fairOkB qs ds qu tu fr)) ∧ Ex w w' := by
  obtain ⟨a, cap, hv, h1, h2, h3⟩ := k1.slices
  simp only [List.cons.injEq, and_true] at hv
  subst hv
  obtain ⟨a', cap', hv, h1', h2', h3', _⟩ := k2.ints
  simp only [List.cons.injEq, and_true] at hv
  subst hv
  unfold maxLen at h2 h2'
  clear k1 k2
  cases q1 : inB qs.length 1 8
  case false =>
    have HV := hid (show fairOkB qs ds qu tu fr = false by simp [fairOkB, q1])
    have H1 := hid q1
    clear q1 h3 h3'
    go_enter Try.func9, Try.ntmps9
    go_wp2_with (first
          | (go_at_call 17; (first | (with_reducible refine (between_v H1.out _).mono ?_)); rintro e w' ⟨rfl, rfl⟩))
    go_ret
    exact ⟨ret_bool HV.out.symm, ((Ex.refl _).alloc _)⟩
  case true =>
  have n8 := (inB_iff.1 q1)
  by_cases q2 : ds.length = qs.length
  case neg =>
    have HV := hid (show fairOkB qs ds qu tu fr = false by simp [fairOkB, q2])
    have H1 := hid q1
    have b2 : ((ds.length : Int) == qs.length) = false := by simp; omega
    have b2' : ((ds.length : Int) != qs.length) = true := by simp; omega
    clear q1 h3 h3'
    go_enter Try.func9, Try.ntmps9
    go_wp2_with (first
          | (go_at_call 17; (first | (with_reducible refine (between_v H1.out _).mono ?_)); rintro e w' ⟨rfl, rfl⟩))
    go_ret
    exact ⟨ret_bool HV.out.symm, ((Ex.refl _).alloc _)⟩
  case pos =>
  have b2 : ((ds.length : Int) == qs.length) = true := by simp; omega
  have b2' : ((ds.length : Int) != qs.length) = false := by simp; omega
  cases q3 : inB qu 1 2000
  case false =>
    have HV := hid (show fairOkB qs ds qu tu fr = false by simp [fairOkB, q3])
    have H1 := hid q1
    have H3 := hid q3
    clear q1 q3 h3 h3'
    go_enter Try.func9, Try.ntmps9
    go_wp2_with (first
          | (go_at_call 17; (first | (with_reducible refine (between_v H1.out _).mono ?_) | (with_reducible refine (between_v H3.out _).mono ?_)); rintro e w' ⟨rfl, rfl⟩))
    go_ret
    exact ⟨ret_bool HV.out.symm, ((Ex.refl _).alloc _)⟩
  case true =>
  have nqu := (inB_iff.1 q3)
  cases q4 : inB tu 0 ((qs.length : Int) - 1)
  case false =>
    have HV := hid (show fairOkB qs ds qu tu fr = false by simp [fairOkB, q4])
    have H1 := hid q1
    have H3 := hid q3
    have H4 := hid q4
    clear q1 q3 q4 h3 h3'
    go_enter Try.func9, Try.ntmps9
    go_wp2_with (first
          | (go_at_call 17; (first | (with_reducible refine (between_v H1.out _).mono ?_) | (with_reducible refine (between_v H3.out _).mono ?_) | (with_reducible refine (between_v H4.out _).mono ?_)); rintro e w' ⟨rfl, rfl⟩))
    go_ret
    exact ⟨ret_bool HV.out.symm, ((Ex.refl _).alloc _)⟩
  case true =>
  have H1 := hid q1
  have H2 := hid q2
  have H3 := hid q3
  have H4 := hid q4
  clear q1 q2 q3 q4
  go_enter Try.func9, Try.ntmps9
  go_wp2_with (first
      | (go_at_call 17; (first | (with_reducible refine (between_v H1.out _).mono ?_) | (with_reducible refine (between_v H3.out _).mono ?_) | (with_reducible refine (between_v H4.out _).mono ?_)); rintro e w' ⟨rfl, rfl⟩))
  go_loopw [40] (fun i wr => ∃ k : Nat, k ≤ qs.length ∧ i = .int .i64 k ∧ Ex (w.alloc (.cells #[.slice a qs.length cap, .slice a' ds.length cap', .int .i64 qu, .int .i64 tu, .bool fr] 27)) wr ∧ ∀ j, j < k → fairRowB qu tu fr j (qs.getD j []) (ds.getD j 0) = true) (fun i _ => qs.length - (intOf i).toNat)
  case atStart => exact ⟨0, Nat.zero_le _, rfl, Ex.refl _, fun j hj => by omega⟩
  case round =>
    obtain ⟨k, hk, rfl, hx, hb⟩ := hrel
    have HX := hid hx
    have HB := hid hb
    have d0 : wr.cell? ⟨w.heap.size, 0, none⟩ = some (.slice a qs.length cap) := by rw [hx.cell (by simp)]; simp
    have d1 : wr.cell? ⟨w.heap.size, 1, none⟩ = some (.slice a' ds.length cap') := by rw [hx.cell (by simp)]; simp
    have d2 : wr.cell? ⟨w.heap.size, 2, none⟩ = some (.int .i64 qu) := by rw [hx.cell (by simp)]; simp
    have d3 : wr.cell? ⟨w.heap.size, 3, none⟩ = some (.int .i64 tu) := by rw [hx.cell (by simp)]; simp
    have d4 : wr.cell? ⟨w.heap.size, 4, none⟩ = some (.bool fr) := by rw [hx.cell (by simp)]; simp
    have lw : w.heap.size < wr.heap.size := by have := hx.size; simp at this; omega
    have EW := hid (((Ex.refl w).alloc (.cells #[.slice a qs.length cap, .slice a' ds.length cap', .int .i64 qu, .int .i64 tu, .bool fr] 27)).trans hx)
    clear hx hb
    by_cases hlt : k < qs.length
    case neg =>
      have HV := hid (fair_all H1.out H2.out H3.out H4.out fun j hj => HB.out j (by omega))
      clear h3 h3'
      go_wp2
      go_ret
      exact ⟨ret_bool HV.out.symm, EW.out.trans (by repeat (first | exact Ex.refl _ | apply Ex.plus_add | apply Ex.plus_drew | apply Ex.plus | apply Ex.alloc | apply Ex.drew))⟩
    case pos =>
    have hlt2 : k < ds.length := by rw [H2.out]; exact hlt
    obtain ⟨b, off, a3, c3, rfl, hc, hh⟩ := h3 k hlt
    obtain ⟨b', off', rfl, hc'⟩ := h3' k hlt2
    have e1 : qs.getD k [] = qs[k] := by simp [List.getD, List.getElem?_eq_getElem hlt]
    have e2 : ds.getD k 0 = ds[k] := by simp [List.getD, List.getElem?_eq_getElem hlt2]
    obtain ⟨_, _, hv5, m1, m2, m3, m4⟩ := hh.ints
    simp only [List.cons.injEq, Value.slice.injEq, and_true, true_and] at hv5
    obtain ⟨rfl, rfl⟩ := hv5
    unfold maxLen at m2
    have lb : b < wr.heap.size := Nat.lt_of_lt_of_le (World.block_lt_of_cell? _ _ hc) (by have := EW.out.size; exact this)
    have lb' : b' < wr.heap.size := Nat.lt_of_lt_of_le (World.block_lt_of_cell? _ _ hc') (by have := EW.out.size; exact this)
    replace hc := (EW.out.cell (World.block_lt_of_cell? _ _ hc)).trans hc
    replace hc' := (EW.out.cell (World.block_lt_of_cell? _ _ hc')).trans hc'
    have hbad : fairRowB qu tu fr k (qs.getD k []) (ds.getD k 0) = false → fairOkB qs ds qu tu fr = false := fun h => fair_bad hlt h
    have hok : fairRowB qu tu fr k (qs.getD k []) (ds.getD k 0) = true → ∀ j, j < k + 1 → fairRowB qu tu fr j (qs.getD j []) (ds.getD j 0) = true := fun h j hj => by
      by_cases e : j = k
      · subst e; exact h
      · exact HB.out j (by omega)
    rw [e1, e2] at hbad hok
    have M3 := hid m3
    clear h3 h3' hh m3 m4 HB e1 e2
    generalize qs[k] = y at *
    generalize ds[k] = d at *
    have HBAD := hid hbad
    have HOK := hid hok
    clear hbad hok
    by_cases g1 : 64 < y.length
    case pos =>
      have HV := hid (HBAD.out (by simp [fairRowB]; omega))
      have t1 : decide (64 < (y.length : Int)) = true := by simp; omega
      have t2 : decide (64 < y.length) = true := by simpa using g1
      go_wp2
      refine wp_region_ext (by kernel_rfl) (by kernel_rfl) ?_
      repeat (go_big_quiet_step ((first | (go_at_call 17; first | exact Calls.ext_of_same (between_v H1.out _) | exact Calls.ext_of2_same (between_v H1.out _)))))
      refine wpQuiet_nil ?_
      intro g
      go_wp2
      go_ret
      exact ⟨ret_bool HV.out.symm, EW.out.trans (by repeat (first | (with_reducible exact Ex.refl _) | (with_reducible apply Ex.plus_add) | (with_reducible apply Ex.plus_drew) | (with_reducible apply Ex.plus) | (with_reducible apply Ex.alloc) | (with_reducible apply Ex.drew)))⟩
    case neg =>
    have t1 : decide (64 < (y.length : Int)) = false := by simp; omega
    have t2 : decide (64 < y.length) = false := by simpa using g1
    cases g2 : inB d 0 (2000 + qu)
    case false =>
      have HV := hid (HBAD.out (by simp [fairRowB, g2]))
      have G2 := hid g2
      clear g2
      go_wp2
      refine wp_region_ext (by kernel_rfl) (by kernel_rfl) ?_
      repeat (go_big_quiet_step ((first | (go_at_call 17; first | exact Calls.ext_of_same (between_v G2.out _) | exact Calls.ext_of2_same (between_v G2.out _)))))
      refine wpQuiet_nil ?_
      intro g
      go_wp2
      go_ret
      exact ⟨ret_bool HV.out.symm, EW.out.trans (by repeat (first | (with_reducible exact Ex.refl _) | (with_reducible apply Ex.plus_add) | (with_reducible apply Ex.plus_drew) | (with_reducible apply Ex.plus) | (with_reducible apply Ex.alloc) | (with_reducible apply Ex.drew)))⟩
    case true =>
    have d00 := inB_iff.1 g2
    obtain ⟨d10, d11⟩ := d00
    have G2 := hid g2
    clear g2
    go_wp2
    refine wp_region_ext (by kernel_rfl) (by kernel_rfl) ?_
    repeat (go_big_quiet_step ((first | (go_at_call 17; first | exact Calls.ext_of_same (between_v G2.out _) | exact Calls.ext_of2_same (between_v G2.out _)))))
    refine wpQuiet_nil ?_
    intro g
    go_wp2
    go_loop [62] (fun i => ∃ j : Nat, j ≤ y.length ∧ i = .int .i64 j ∧ ∀ l (hl : l < y.length), l < j → inB y[l] 1 2000 = true) (fun i => y.length - (intOf i).toNat)
    case atStart => exact ⟨0, Nat.zero_le _, rfl, fun l _ h => by omega⟩
    case round =>
      obtain ⟨j, hj, rfl, hb⟩ := hrel
      have HBJ := hid hb
      clear hb
      by_cases hjl : j < y.length
      case pos =>
        obtain ⟨b3, o3, rfl, c3⟩ := M3.out j hjl
        have lb3 : b3 < wr.heap.size := Nat.lt_of_lt_of_le (World.block_lt_of_cell? _ _ c3) (by have := EW.out.size; exact this)
        replace c3 := (EW.out.cell (World.block_lt_of_cell? _ _ c3)).trans c3
        obtain ⟨n, hn⟩ : ∃ n, n = y[j] := ⟨_, rfl⟩
        rw [← hn] at c3
        have HN := hid hn
        clear hn
        cases g3 : inB n 1 2000
        case false =>
          have HV := hid (HBAD.out (row_bad3 hjl (by rw [← HN.out]; exact g3)))
          have G3 := hid g3
          clear g3
          go_wp2_with (first
          | (go_at_call 17; (first | (with_reducible refine (between_v G3.out _).mono ?_)); rintro e w' ⟨rfl, rfl⟩))
          go_ret
          exact ⟨ret_bool HV.out.symm, EW.out.trans (by repeat (first | (with_reducible exact Ex.refl _) | (with_reducible apply Ex.plus_add) | (with_reducible apply Ex.plus_drew) | (with_reducible apply Ex.plus) | (with_reducible apply Ex.alloc) | (with_reducible apply Ex.drew)))⟩
        case true =>
          have G3 := hid g3
          clear g3
          go_wp2_with (first
          | (go_at_call 17; (first | (with_reducible refine (between_v G3.out _).mono ?_)); rintro e w' ⟨rfl, rfl⟩))
          go_round
          case rel => exact ⟨j + 1, by omega, by go_num, fun l hl h => by
                        by_cases e : l = j
                        · subst e; rw [← HN.out]; exact G3.out
                        · exact HBJ.out l hl (by omega)⟩
          case measure => simp [intOf]; omega
      case neg =>
        have hall : y.all (fun n => inB n 1 2000) = true := by
          rw [List.all_eq_true]; intro n hn
          obtain ⟨l, hl, rfl⟩ := List.getElem_of_mem hn
          exact HBJ.out l hl (by omega)
        have HALL := hid hall
        clear hall
        by_cases z1 : y.length = 0
        case neg =>
          have zi : ((y.length : Int) == 0) = false := by simp; intro h; subst h; simp at z1
          have Z1 := hid z1
          clear z1
          go_wp2
          go_roundw
          case rel => exact ⟨k + 1, by omega, by go_num, HX.out.trans (by repeat (first | (with_reducible exact Ex.refl _) | (with_reducible apply Ex.plus_add) | (with_reducible apply Ex.plus_drew) | (with_reducible apply Ex.plus) | (with_reducible apply Ex.alloc) | (with_reducible apply Ex.drew))), HOK.out (by simp only [fairRowB]; rw [G2.out, HALL.out]; exact row_good (by omega) (.inl Z1.out))⟩
          case measure => simp [intOf]; omega
        case pos =>
        have zi : ((y.length : Int) == 0) = true := by rw [z1]; rfl
        have Z1 := hid z1
        cases z2 : (d == 0)
        case true =>
          have z2' : (d != 0) = false := by simp at z2 ⊢; exact z2
          have Z2 := hid z2
          clear z2
          go_wp2
          go_roundw
          case rel => exact ⟨k + 1, by omega, by go_num, HX.out.trans (by repeat (first | (with_reducible exact Ex.refl _) | (with_reducible apply Ex.plus_add) | (with_reducible apply Ex.plus_drew) | (with_reducible apply Ex.plus) | (with_reducible apply Ex.alloc) | (with_reducible apply Ex.drew))), HOK.out (by simp only [fairRowB]; rw [G2.out, HALL.out]; exact row_good (by omega) (.inr (.inl Z2.out)))⟩
          case measure => simp [intOf]; omega
        case false =>
        have z2' : (d != 0) = true := by simp at z2 ⊢; exact z2
        have Z2 := hid z2
        clear z2
        cases z3 : ((k : Int) == tu)
        case false =>
          have z3' : ((k : Int) != tu) = true := by simp at z3 ⊢; exact z3
          have HV := hid (HBAD.out (by simp only [fairRowB, Z1.out, Z2.out, z3]; simp))
          clear z3
          go_wp2
          go_ret
          exact ⟨ret_bool HV.out.symm, EW.out.trans (by repeat (first | (with_reducible exact Ex.refl _) | (with_reducible apply Ex.plus_add) | (with_reducible apply Ex.plus_drew) | (with_reducible apply Ex.plus) | (with_reducible apply Ex.alloc) | (with_reducible apply Ex.drew)))⟩
        case true =>
        have z3' : ((k : Int) != tu) = false := by simp at z3 ⊢; exact z3
        have Z3 := hid z3
        clear z3
        cases fr
        case true =>
          have HV := hid (HBAD.out (by simp only [fairRowB, Z1.out, Z2.out, Z3.out]; simp))
          go_wp2
          go_ret
          exact ⟨ret_bool HV.out.symm, EW.out.trans (by repeat (first | (with_reducible exact Ex.refl _) | (with_reducible apply Ex.plus_add) | (with_reducible apply Ex.plus_drew) | (with_reducible apply Ex.plus) | (with_reducible apply Ex.alloc) | (with_reducible apply Ex.drew)))⟩
        case false =>
        go_wp2
        go_roundw
        case rel => exact ⟨k + 1, by omega, by go_num, HX.out.trans (by repeat (first | (with_reducible exact Ex.refl _) | (with_reducible apply Ex.plus_add) | (with_reducible apply Ex.plus_drew) | (with_reducible apply Ex.plus) | (with_reducible apply Ex.alloc) | (with_reducible apply Ex.drew))), HOK.out (by simp only [fairRowB]; rw [G2.out, HALL.out]; exact row_good (by omega) (.inr (.inr ⟨Z3.out, rfl⟩)))⟩
        case measure => simp [intOf]; omega

set_option maxRecDepth 100000 in
set_option maxHeartbeats 4000000 in
theorem fairOkS_any (v1 v2 : Value) (qs : List (List Int)) (ds : List Int) (qu tu : Int) (fr : Bool) (w : World) (k1 : Holds w qs [v1]) (k2 : Holds w ds [v2]) :
    Calls Try.prog 19 #[.agg #[v1, v2, .int .i64 qu, .int .i64 tu, .bool fr]] w fun e w' => e = .returned (.bool (fairOkB qs ds qu tu fr)) ∧ Ex w w' := by
  obtain ⟨a, cap, hv, h1, h2, h3⟩ := k1.slices
  simp only [List.cons.injEq, and_true] at hv
  subst hv
  obtain ⟨a', cap', hv, h1', h2', h3', _⟩ := k2.ints
  simp only [List.cons.injEq, and_true] at hv
  subst hv
  unfold maxLen at h2 h2'
  clear k1 k2
  cases q1 : inB qs.length 1 8
  case false =>
    have HV := hid (show fairOkB qs ds qu tu fr = false by simp [fairOkB, q1])
    have H1 := hid q1
    clear q1 h3 h3'
    go_enter Try.func19, Try.ntmps19
    go_wp2_with (first
          | (go_at_call 25; (first | (with_reducible refine (l01In_v H1.out _).mono ?_)); rintro e w' ⟨rfl, rfl⟩))
    go_ret
    exact ⟨ret_bool HV.out.symm, ((Ex.refl _).alloc _)⟩
  case true =>
  have n8 := (inB_iff.1 q1)
  by_cases q2 : ds.length = qs.length
  case neg =>
    have HV := hid (show fairOkB qs ds qu tu fr = false by simp [fairOkB, q2])
    have H1 := hid q1
    have b2 : ((ds.length : Int) == qs.length) = false := by simp; omega
    have b2' : ((ds.length : Int) != qs.length) = true := by simp; omega
    clear q1 h3 h3'
    go_enter Try.func19, Try.ntmps19
    go_wp2_with (first
          | (go_at_call 25; (first | (with_reducible refine (l01In_v H1.out _).mono ?_)); rintro e w' ⟨rfl, rfl⟩))
    go_ret
    exact ⟨ret_bool HV.out.symm, ((Ex.refl _).alloc _)⟩
  case pos =>
  have b2 : ((ds.length : Int) == qs.length) = true := by simp; omega
  have b2' : ((ds.length : Int) != qs.length) = false := by simp; omega
  cases q3 : inB qu 1 2000
  case false =>
    have HV := hid (show fairOkB qs ds qu tu fr = false by simp [fairOkB, q3])
    have H1 := hid q1
    have H3 := hid q3
    clear q1 q3 h3 h3'
    go_enter Try.func19, Try.ntmps19
    go_wp2_with (first
          | (go_at_call 25; (first | (with_reducible refine (l01In_v H1.out _).mono ?_) | (with_reducible refine (l01In_v H3.out _).mono ?_)); rintro e w' ⟨rfl, rfl⟩))
    go_ret
    exact ⟨ret_bool HV.out.symm, ((Ex.refl _).alloc _)⟩
  case true =>
  have nqu := (inB_iff.1 q3)
  cases q4 : inB tu 0 ((qs.length : Int) - 1)
  case false =>
    have HV := hid (show fairOkB qs ds qu tu fr = false by simp [fairOkB, q4])
    have H1 := hid q1
    have H3 := hid q3
    have H4 := hid q4
    clear q1 q3 q4 h3 h3'
    go_enter Try.func19, Try.ntmps19
    go_wp2_with (first
          | (go_at_call 25; (first | (with_reducible refine (l01In_v H1.out _).mono ?_) | (with_reducible refine (l01In_v H3.out _).mono ?_) | (with_reducible refine (l01In_v H4.out _).mono ?_)); rintro e w' ⟨rfl, rfl⟩))
    go_ret
    exact ⟨ret_bool HV.out.symm, ((Ex.refl _).alloc _)⟩
  case true =>
  have H1 := hid q1
  have H2 := hid q2
  have H3 := hid q3
  have H4 := hid q4
  clear q1 q2 q3 q4
  go_enter Try.func19, Try.ntmps19
  go_wp2_with (first
      | (go_at_call 25; (first | (with_reducible refine (l01In_v H1.out _).mono ?_) | (with_reducible refine (l01In_v H3.out _).mono ?_) | (with_reducible refine (l01In_v H4.out _).mono ?_)); rintro e w' ⟨rfl, rfl⟩))
  go_loopw [4] (fun i wr => ∃ k : Nat, k ≤ qs.length ∧ i = .int .i64 k ∧ Ex (w.alloc (.cells #[.slice a qs.length cap, .slice a' ds.length cap', .int .i64 qu, .int .i64 tu, .bool fr] 27)) wr ∧ ∀ j, j < k → fairRowB qu tu fr j (qs.getD j []) (ds.getD j 0) = true) (fun i _ => qs.length - (intOf i).toNat)
  case atStart => exact ⟨0, Nat.zero_le _, rfl, Ex.refl _, fun j hj => by omega⟩
  case round =>
    obtain ⟨k, hk, rfl, hx, hb⟩ := hrel
    have HX := hid hx
    have HB := hid hb
    have d0 : wr.cell? ⟨w.heap.size, 0, none⟩ = some (.slice a qs.length cap) := by rw [hx.cell (by simp)]; simp
    have d1 : wr.cell? ⟨w.heap.size, 1, none⟩ = some (.slice a' ds.length cap') := by rw [hx.cell (by simp)]; simp
    have d2 : wr.cell? ⟨w.heap.size, 2, none⟩ = some (.int .i64 qu) := by rw [hx.cell (by simp)]; simp
    have d3 : wr.cell? ⟨w.heap.size, 3, none⟩ = some (.int .i64 tu) := by rw [hx.cell (by simp)]; simp
    have d4 : wr.cell? ⟨w.heap.size, 4, none⟩ = some (.bool fr) := by rw [hx.cell (by simp)]; simp
    have lw : w.heap.size < wr.heap.size := by have := hx.size; simp at this; omega
    have EW := hid (((Ex.refl w).alloc (.cells #[.slice a qs.length cap, .slice a' ds.length cap', .int .i64 qu, .int .i64 tu, .bool fr] 27)).trans hx)
    clear hx hb
    by_cases hlt : k < qs.length
    case neg =>
      have HV := hid (fair_all H1.out H2.out H3.out H4.out fun j hj => HB.out j (by omega))
      clear h3 h3'
      go_wp2
      go_ret
      exact ⟨ret_bool HV.out.symm, EW.out.trans (by repeat (first | exact Ex.refl _ | apply Ex.plus_add | apply Ex.plus_drew | apply Ex.plus | apply Ex.alloc | apply Ex.drew))⟩
    case pos =>
    have hlt2 : k < ds.length := by rw [H2.out]; exact hlt
    obtain ⟨b, off, a3, c3, rfl, hc, hh⟩ := h3 k hlt
    obtain ⟨b', off', rfl, hc'⟩ := h3' k hlt2
    have e1 : qs.getD k [] = qs[k] := by simp [List.getD, List.getElem?_eq_getElem hlt]
    have e2 : ds.getD k 0 = ds[k] := by simp [List.getD, List.getElem?_eq_getElem hlt2]
    obtain ⟨_, _, hv5, m1, m2, m3, m4⟩ := hh.ints
    simp only [List.cons.injEq, Value.slice.injEq, and_true, true_and] at hv5
    obtain ⟨rfl, rfl⟩ := hv5
    unfold maxLen at m2
    have lb : b < wr.heap.size := Nat.lt_of_lt_of_le (World.block_lt_of_cell? _ _ hc) (by have := EW.out.size; exact this)
    have lb' : b' < wr.heap.size := Nat.lt_of_lt_of_le (World.block_lt_of_cell? _ _ hc') (by have := EW.out.size; exact this)
    replace hc := (EW.out.cell (World.block_lt_of_cell? _ _ hc)).trans hc
    replace hc' := (EW.out.cell (World.block_lt_of_cell? _ _ hc')).trans hc'
    have hbad : fairRowB qu tu fr k (qs.getD k []) (ds.getD k 0) = false → fairOkB qs ds qu tu fr = false := fun h => fair_bad hlt h
    have hok : fairRowB qu tu fr k (qs.getD k []) (ds.getD k 0) = true → ∀ j, j < k + 1 → fairRowB qu tu fr j (qs.getD j []) (ds.getD j 0) = true := fun h j hj => by
      by_cases e : j = k
      · subst e; exact h
      · exact HB.out j (by omega)
    rw [e1, e2] at hbad hok
    have M3 := hid m3
    clear h3 h3' hh m3 m4 HB e1 e2
    generalize qs[k] = y at *
    generalize ds[k] = d at *
    have HBAD := hid hbad
    have HOK := hid hok
    clear hbad hok
    by_cases g1 : 64 < y.length
    case pos =>
      have HV := hid (HBAD.out (by simp [fairRowB]; omega))
      have t1 : decide (64 < (y.length : Int)) = true := by simp; omega
      have t2 : decide (64 < y.length) = true := by simpa using g1
      go_wp2
      refine wp_region_ext (by kernel_rfl) (by kernel_rfl) ?_
      repeat (go_big_quiet_step ((first | (go_at_call 25; first | exact Calls.ext_of_same (l01In_v H1.out _) | exact Calls.ext_of2_same (l01In_v H1.out _)))))
      refine wpQuiet_nil ?_
      intro g
      go_wp2
      go_ret
      exact ⟨ret_bool HV.out.symm, EW.out.trans (by repeat (first | (with_reducible exact Ex.refl _) | (with_reducible apply Ex.plus_add) | (with_reducible apply Ex.plus_drew) | (with_reducible apply Ex.plus) | (with_reducible apply Ex.alloc) | (with_reducible apply Ex.drew)))⟩
    case neg =>
    have t1 : decide (64 < (y.length : Int)) = false := by simp; omega
    have t2 : decide (64 < y.length) = false := by simpa using g1
    cases g2 : inB d 0 (2000 + qu)
    case false =>
      have HV := hid (HBAD.out (by simp [fairRowB, g2]))
      have G2 := hid g2
      clear g2
      go_wp2
      refine wp_region_ext (by kernel_rfl) (by kernel_rfl) ?_
      repeat (go_big_quiet_step ((first | (go_at_call 25; first | exact Calls.ext_of_same (l01In_v G2.out _) | exact Calls.ext_of2_same (l01In_v G2.out _)))))
      refine wpQuiet_nil ?_
      intro g
      go_wp2
      go_ret
      exact ⟨ret_bool HV.out.symm, EW.out.trans (by repeat (first | (with_reducible exact Ex.refl _) | (with_reducible apply Ex.plus_add) | (with_reducible apply Ex.plus_drew) | (with_reducible apply Ex.plus) | (with_reducible apply Ex.alloc) | (with_reducible apply Ex.drew)))⟩
    case true =>
    have d00 := inB_iff.1 g2
    obtain ⟨d10, d11⟩ := d00
    have G2 := hid g2
    clear g2
    by_cases z1 : y.length = 0
    case neg =>
      have zi : ((y.length : Int) == 0) = false := by simp; intro h; subst h; simp at z1
      have Z1 := hid z1
      clear z1
      go_wp2
      refine wp_region_ext (by kernel_rfl) (by kernel_rfl) ?_
      repeat (go_big_quiet_step ((first | (go_at_call 25; first | exact Calls.ext_of_same (l01In_v G2.out _) | exact Calls.ext_of2_same (l01In_v G2.out _)))))
      refine wpQuiet_nil ?_
      intro g
      go_wp2
      go_loop [5] (fun i => ∃ j : Nat, j ≤ y.length ∧ i = .int .i64 j ∧ ∀ l (hl : l < y.length), l < j → inB y[l] 1 2000 = true) (fun i => y.length - (intOf i).toNat)
      case atStart => exact ⟨0, Nat.zero_le _, rfl, fun l _ h => by omega⟩
      case round =>
        obtain ⟨j, hj, rfl, hb⟩ := hrel
        have HBJ := hid hb
        clear hb
        by_cases hjl : j < y.length
        case pos =>
          obtain ⟨b3, o3, rfl, c3⟩ := M3.out j hjl
          have lb3 : b3 < wr.heap.size := Nat.lt_of_lt_of_le (World.block_lt_of_cell? _ _ c3) (by have := EW.out.size; exact this)
          replace c3 := (EW.out.cell (World.block_lt_of_cell? _ _ c3)).trans c3
          obtain ⟨n, hn⟩ : ∃ n, n = y[j] := ⟨_, rfl⟩
          rw [← hn] at c3
          have HN := hid hn
          clear hn
          cases g3 : inB n 1 2000
          case false =>
            have HV := hid (HBAD.out (row_bad3 hjl (by rw [← HN.out]; exact g3)))
            have G3 := hid g3
            clear g3
            go_wp2_with (first
            | (go_at_call 25; (first | (with_reducible refine (l01In_v G3.out _).mono ?_)); rintro e w' ⟨rfl, rfl⟩))
            go_ret
            exact ⟨ret_bool HV.out.symm, EW.out.trans (by repeat (first | (with_reducible exact Ex.refl _) | (with_reducible apply Ex.plus_add) | (with_reducible apply Ex.plus_drew) | (with_reducible apply Ex.plus) | (with_reducible apply Ex.alloc) | (with_reducible apply Ex.drew)))⟩
          case true =>
            have G3 := hid g3
            clear g3
            go_wp2_with (first
            | (go_at_call 25; (first | (with_reducible refine (l01In_v G3.out _).mono ?_)); rintro e w' ⟨rfl, rfl⟩))
            go_round
            case rel => exact ⟨j + 1, by omega, by go_num, fun l hl h => by
                          by_cases e : l = j
                          · subst e; rw [← HN.out]; exact G3.out
                          · exact HBJ.out l hl (by omega)⟩
            case measure => simp [intOf]; omega
        case neg =>
          have hall : y.all (fun n => inB n 1 2000) = true := by
            rw [List.all_eq_true]; intro n hn
            obtain ⟨l, hl, rfl⟩ := List.getElem_of_mem hn
            exact HBJ.out l hl (by omega)
          have HALL := hid hall
          clear hall
          go_wp2
          go_roundw
          case rel => exact ⟨k + 1, by omega, by go_num, HX.out.trans (by repeat (first | (with_reducible exact Ex.refl _) | (with_reducible apply Ex.plus_add) | (with_reducible apply Ex.plus_drew) | (with_reducible apply Ex.plus) | (with_reducible apply Ex.alloc) | (with_reducible apply Ex.drew))), HOK.out (by simp only [fairRowB]; rw [G2.out, HALL.out]; exact row_good (by omega) (.inl Z1.out))⟩
          case measure => simp [intOf]; omega
    case pos =>
    have zi : ((y.length : Int) == 0) = true := by rw [z1]; rfl
    have Z1 := hid z1
    cases z2 : (d == 0)
    case true =>
      have z2' : (d != 0) = false := by simp at z2 ⊢; exact z2
      have Z2 := hid z2
      clear z2
      go_wp2
      refine wp_region_ext (by kernel_rfl) (by kernel_rfl) ?_
      repeat (go_big_quiet_step ((first | (go_at_call 25; first | exact Calls.ext_of_same (l01In_v G2.out _) | exact Calls.ext_of2_same (l01In_v G2.out _)))))
      refine wpQuiet_nil ?_
      intro g
      go_wp2
      clear z1 zi
      go_loop [5] (fun i => ∃ j : Nat, j ≤ y.length ∧ i = .int .i64 j ∧ ∀ l (hl : l < y.length), l < j → inB y[l] 1 2000 = true) (fun i => y.length - (intOf i).toNat)
      case atStart => exact ⟨0, Nat.zero_le _, rfl, fun l _ h => by omega⟩
      case round =>
        obtain ⟨j, hj, rfl, hb⟩ := hrel
        have HBJ := hid hb
        clear hb
        by_cases hjl : j < y.length
        case pos => exact absurd hjl (by have := Z1.out; omega)
        case neg =>
          have hall : y.all (fun n => inB n 1 2000) = true := by
            rw [List.all_eq_true]; intro n hn
            obtain ⟨l, hl, rfl⟩ := List.getElem_of_mem hn
            exact HBJ.out l hl (by omega)
          have HALL := hid hall
          clear hall
          go_wp2
          go_roundw
          case rel => exact ⟨k + 1, by omega, by go_num, HX.out.trans (by repeat (first | (with_reducible exact Ex.refl _) | (with_reducible apply Ex.plus_add) | (with_reducible apply Ex.plus_drew) | (with_reducible apply Ex.plus) | (with_reducible apply Ex.alloc) | (with_reducible apply Ex.drew))), HOK.out (by simp only [fairRowB]; rw [G2.out, HALL.out]; exact row_good (by omega) (.inr (.inl Z2.out)))⟩
          case measure => simp [intOf]; omega
    case false =>
    have z2' : (d != 0) = true := by simp at z2 ⊢; exact z2
    have Z2 := hid z2
    clear z2
    cases z3 : ((k : Int) == tu)
    case false =>
      have z3' : ((k : Int) != tu) = true := by simp at z3 ⊢; exact z3
      have HV := hid (HBAD.out (by simp only [fairRowB, Z1.out, Z2.out, z3]; simp))
      clear z3
      go_wp2
      refine wp_region_ext (by kernel_rfl) (by kernel_rfl) ?_
      repeat (go_big_quiet_step ((first | (go_at_call 25; first | exact Calls.ext_of_same (l01In_v G2.out _) | exact Calls.ext_of2_same (l01In_v G2.out _)))))
      refine wpQuiet_nil ?_
      intro g
      go_wp2
      go_ret
      exact ⟨ret_bool HV.out.symm, EW.out.trans (by repeat (first | (with_reducible exact Ex.refl _) | (with_reducible apply Ex.plus_add) | (with_reducible apply Ex.plus_drew) | (with_reducible apply Ex.plus) | (with_reducible apply Ex.alloc) | (with_reducible apply Ex.drew)))⟩
    case true =>
    have z3' : ((k : Int) != tu) = false := by simp at z3 ⊢; exact z3
    have Z3 := hid z3
    clear z3
    cases fr
    case true =>
      have HV := hid (HBAD.out (by simp only [fairRowB, Z1.out, Z2.out, Z3.out]; simp))
      go_wp2
      refine wp_region_ext (by kernel_rfl) (by kernel_rfl) ?_
      repeat (go_big_quiet_step ((first | (go_at_call 25; first | exact Calls.ext_of_same (l01In_v G2.out _) | exact Calls.ext_of2_same (l01In_v G2.out _)))))
      refine wpQuiet_nil ?_
      intro g
      go_wp2
      go_ret
      exact ⟨ret_bool HV.out.symm, EW.out.trans (by repeat (first | (with_reducible exact Ex.refl _) | (with_reducible apply Ex.plus_add) | (with_reducible apply Ex.plus_drew) | (with_reducible apply Ex.plus) | (with_reducible apply Ex.alloc) | (with_reducible apply Ex.drew)))⟩
    case false =>
    go_wp2
    refine wp_region_ext (by kernel_rfl) (by kernel_rfl) ?_
    repeat (go_big_quiet_step ((first | (go_at_call 25; first | exact Calls.ext_of_same (l01In_v G2.out _) | exact Calls.ext_of2_same (l01In_v G2.out _)))))
    refine wpQuiet_nil ?_
    intro g
    go_wp2
    clear z1 zi
    go_loop [5] (fun i => ∃ j : Nat, j ≤ y.length ∧ i = .int .i64 j ∧ ∀ l (hl : l < y.length), l < j → inB y[l] 1 2000 = true) (fun i => y.length - (intOf i).toNat)
    case atStart => exact ⟨0, Nat.zero_le _, rfl, fun l _ h => by omega⟩
    case round =>
      obtain ⟨j, hj, rfl, hb⟩ := hrel
      have HBJ := hid hb
      clear hb
      by_cases hjl : j < y.length
      case pos => exact absurd hjl (by have := Z1.out; omega)
      case neg =>
        have hall : y.all (fun n => inB n 1 2000) = true := by
          rw [List.all_eq_true]; intro n hn
          obtain ⟨l, hl, rfl⟩ := List.getElem_of_mem hn
          exact HBJ.out l hl (by omega)
        have HALL := hid hall
        clear hall
        go_wp2
        go_roundw
        case rel => exact ⟨k + 1, by omega, by go_num, HX.out.trans (by repeat (first | (with_reducible exact Ex.refl _) | (with_reducible apply Ex.plus_add) | (with_reducible apply Ex.plus_drew) | (with_reducible apply Ex.plus) | (with_reducible apply Ex.alloc) | (with_reducible apply Ex.drew))), HOK.out (by simp only [fairRowB]; rw [G2.out, HALL.out]; exact row_good (by omega) (.inr (.inr ⟨Z3.out, rfl⟩)))⟩
        case measure => simp [intOf]; omega

end Go.Proofs.Ytigepcpmdhcenaa
