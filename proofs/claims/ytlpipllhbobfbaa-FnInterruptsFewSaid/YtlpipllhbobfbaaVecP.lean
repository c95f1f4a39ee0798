/- The walks of FnInterruptComes and FnInterruptsFew. -/
import Derived.Test.YtlpipllhbobfbaaRows
import Derived.Test.YtlpipllhbobfbaaVecD
namespace Go.Proofs.Ytlpipllhbobfbaa
open Go.RowKit
set_option linter.unusedVariables false


set_option maxHeartbeats 1000000 in
theorem drawVector_any (v : Value) (code : List UInt8) (w : World) (k1 : Holds w code [v]) :
    Calls Try.prog 56 #[v] w (RetVec w) := by
  obtain ⟨a, cap, hv, h1, h2, h3⟩ := k1.bytes
  simp only [List.cons.injEq, and_true] at hv
  subst hv
  clear h3
  go_enter Try.func56, Try.ntmps56
  go_wp2_with fail
  (with_reducible refine (l01New_any _ code _ (k1.ex (by repeat (first | (with_reducible exact Ex.refl _) | (with_reducible apply Ex.plus_add) | (with_reducible apply Ex.plus_drew) | (with_reducible apply Ex.plus) | (with_reducible apply Ex.alloc) | (with_reducible apply Ex.drew))))).mono ?_); rintro e w1 ⟨B, h, rfl, hB, hx, hr⟩
  have lB := row_lt hr
  have hxw : Ex w w1 := Ex.trans (by repeat (first | (with_reducible exact Ex.refl _) | (with_reducible apply Ex.plus_add) | (with_reducible apply Ex.plus_drew) | (with_reducible apply Ex.plus) | (with_reducible apply Ex.alloc) | (with_reducible apply Ex.drew))) hx
  have hcu := Cu.new (T := 129) k1 hxw (by simp at hB; omega) hr
  have hW : w1.heap[w.heap.size]? = some (.cells #[.int .i64 0, .int .i64 0, .int .i64 0, .int .i64 0, .bool false, .bool false] 24 (0, 0)) := hx.row (row_alloc _ _)
  clear hr hx
  go_wp2_with fail
  (with_reducible refine (l28Vector_any B _ code w w1 hcu).mono ?_); rintro e w' ⟨mc, mt, c, t, m, r, hok, rfl, i, h, g, i0, i1, rfl⟩
  have hlB : w.heap.size ≤ B := by simp at hB; omega
  have nB : w.heap.size ≠ B := by simp at hB; omega
  have d0 : w1.cell? ⟨w.heap.size, 0, none⟩ = some (.int .i64 0) := by rw [cell_row hW]; rfl
  have d1 : w1.cell? ⟨w.heap.size, 1, none⟩ = some (.int .i64 0) := by rw [cell_row hW]; rfl
  have d2 : w1.cell? ⟨w.heap.size, 2, none⟩ = some (.int .i64 0) := by rw [cell_row hW]; rfl
  have d3 : w1.cell? ⟨w.heap.size, 3, none⟩ = some (.int .i64 0) := by rw [cell_row hW]; rfl
  have d4 : w1.cell? ⟨w.heap.size, 4, none⟩ = some (.bool false) := by rw [cell_row hW]; rfl
  have d5 : w1.cell? ⟨w.heap.size, 5, none⟩ = some (.bool false) := by rw [cell_row hW]; rfl
  have f0 := frozen_row hW 0
  have f1 := frozen_row hW 1
  have f2 := frozen_row hW 2
  have f3 := frozen_row hW 3
  have f4 := frozen_row hW 4
  have f5 := frozen_row hW 5
  have HOK := hid hok
  have HW := hid hW
  have lW := row_lt hW
  clear hok hW
  go_wp2
  refine bodyPost_ret (v := _) (by simp [results, Try.results56, go_sem, d0, d1, d2, d3, d4, d5, lW, nB] <;> rfl) rfl ?_
  exact ⟨_, _, _, _, _, _, HOK.out, rfl, (by repeat (first | (with_reducible exact hxw) | (with_reducible refine Ex.plus ?_ _) | (with_reducible refine Ex.drew ?_) | (with_reducible refine Ex.alloc ?_ _) | (with_reducible refine Ex.upd1 ?_ (by first | assumption | omega | (simp; done) | (simp; omega))) | (with_reducible refine Ex.setCell ?_ (by first | assumption | omega | (simp; done) | (simp; omega)) _)))⟩


theorem big_v (v : Value) (code : List UInt8) (w : World) (k1 : Holds w code [v]) {q : Bool} (hq : decide (1048576 < code.length) = q) :
    Calls Try.prog 19 #[v] w fun e w' => e = .returned (.bool q) ∧ w = w' := by
  obtain ⟨a, cap, hv, h1, h2, h3⟩ := k1.bytes
  simp only [List.cons.injEq, and_true] at hv
  subst hv
  unfold maxLen at h2
  clear h3
  go_enter Try.func19, Try.ntmps19
  go_wp2
  go_ret
  exact ⟨ret_bool (by rw [← hq, Bool.eq_iff_iff]; simp; omega), rfl⟩

set_option maxHeartbeats 1000000 in
theorem at_any (v : Value) (code : List UInt8) (i : Int) (w : World) (k1 : Holds w code [v]) (h0 : 0 ≤ i) (hi : i ≤ 100000) :
    Calls Try.prog 23 #[v, .int .i64 i] w fun e w' => ∃ r : Int, 0 ≤ r ∧ r ≤ 255 ∧ e = .returned (.int .i64 r) ∧ w = w' := by
  obtain ⟨a, cap, hv, h1, h2, h3⟩ := k1.bytes
  simp only [List.cons.injEq, and_true] at hv
  subst hv
  unfold maxLen at h2
  by_cases hl : code.length = 0
  · clear h3
    have b0 : ((code.length : Int) == 0) = true := beq_iff_eq.2 (by omega)
    have HL := hid hl
    clear hl
    go_enter Try.func23, Try.ntmps23
    go_wp2
    go_ret
    exact ⟨0, by omega, by omega, rfl, rfl⟩
  · have b0 : ((code.length : Int) == 0) = false := beq_eq_false_iff_ne.2 (by omega)
    have p0 : (0 : Int) < code.length := by omega
    have q0 : 0 ≤ (i * 5 + 1) % (code.length : Int) := Int.emod_nonneg _ (by omega)
    have q1 : (i * 5 + 1) % (code.length : Int) < code.length := Int.emod_lt_of_pos _ p0
    obtain ⟨k, hk⟩ := Int.eq_ofNat_of_zero_le q0
    have hlt : k < code.length := by omega
    obtain ⟨b, off, rfl, hc⟩ := h3 k hlt
    have hy := code[k].toNat_lt
    generalize code[k] = y at *
    clear h3
    go_enter Try.func23, Try.ntmps23
    go_wp2
    go_ret
    exact ⟨y.toNat, by omega, by omega, rfl, rfl⟩

set_option maxHeartbeats 400000 in
theorem addEvent_p (mc mt c t : Int) (m r : Bool) (h : vectorOkB mc mt c t m r = true) (w : World) :
    Calls Try.prog 57 #[.agg #[.int .i64 mc, .int .i64 mt, .int .i64 c, .int .i64 t, .bool m, .bool r]] w fun e w' => ∃ c' r', vectorOkB mc mt c' t m r' = true ∧ 1 ≤ c' ∧ e = .returned (.agg #[.int .i64 mc, .int .i64 mt, .int .i64 c', .int .i64 t, .bool m, .bool r']) ∧ Ex w w' := by
  obtain ⟨_, _, _, _, b5, _⟩ := vok_bd h
  exact (addEvent_t mc mt c t m r h w).mono fun e w' ⟨he, hx⟩ => ⟨_, _, vok_event h, by omega, he, hx⟩

set_option maxHeartbeats 400000 in
theorem unmask_p (mc mt c t : Int) (m r : Bool) (h : vectorOkB mc mt c t m r = true) (w : World) :
    Calls Try.prog 58 #[.agg #[.int .i64 mc, .int .i64 mt, .int .i64 c, .int .i64 t, .bool m, .bool r]] w fun e w' => ∃ r', vectorOkB mc mt c t false r' = true ∧ e = .returned (.agg #[.int .i64 mc, .int .i64 mt, .int .i64 c, .int .i64 t, .bool false, .bool r']) ∧ Ex w w' := by
  exact (unmask_t mc mt c t m r h w).mono fun e w' ⟨he, hx⟩ => ⟨_, vok_unmask h, he, hx⟩

set_option maxHeartbeats 400000 in
theorem tick_p (mc mt c t : Int) (h : vectorOkB mc mt c t false false = true) (hc : 1 ≤ c) (w : World) :
    Calls Try.prog 17 #[.agg #[.int .i64 mc, .int .i64 mt, .int .i64 c, .int .i64 t, .bool false, .bool false]] w fun e w' => ∃ r', vectorOkB mc mt c (t + 1) false r' = true ∧ e = .returned (.agg #[.int .i64 mc, .int .i64 mt, .int .i64 c, .int .i64 (t + 1), .bool false, .bool r']) ∧ Ex w w' := by
  have h1 := vok_tick h (by omega)
  have hb := (vok_iff.1 h).2.2
  have hm : min (t + 1) 1000000 = t + 1 := by
    have := vok_bd h
    simp at hb; omega
  rw [hm] at h1
  exact (tickVector_t mc mt c t false false h (by omega) w).mono fun e w' ⟨he, hx⟩ => ⟨_, h1, by rw [he, hm], hx⟩

set_option maxHeartbeats 400000 in
theorem ticks_p (mc mt c t : Int) (m r : Bool) (h : vectorOkB mc mt c t m r = true) (hm : m = false) (hc : 1 ≤ c) {n : Int} (hn : n = if r then 0 else mt - t) (w : World) :
    Calls Try.prog 59 #[.agg #[.int .i64 mc, .int .i64 mt, .int .i64 c, .int .i64 t, .bool m, .bool r]] w fun e w' => e = .returned (.int .i64 n) ∧ Ex w w' := by
  have hv : ticksV mc mt c t m r = n := by
    rw [hn, ticksV, h, hm]
    have : (c == 0) = false := beq_eq_false_iff_ne.2 (by omega)
    simp [this]
  exact hv ▸ ticks_any mc mt c t m r w

set_option maxHeartbeats 400000 in
theorem maskVector_p (mc mt c t : Int) (m r : Bool) (h : vectorOkB mc mt c t m r = true) (w : World) :
    Calls Try.prog 62 #[.agg #[.int .i64 mc, .int .i64 mt, .int .i64 c, .int .i64 t, .bool m, .bool r]] w fun e w' => vectorOkB mc mt c t true false = true ∧ e = .returned (.agg #[.int .i64 mc, .int .i64 mt, .int .i64 c, .int .i64 t, .bool true, .bool false]) ∧ Ex w w' := by
  exact (maskVector_t mc mt c t m r h w).mono fun e w' ⟨he, hx⟩ => ⟨vok_mask h, he, hx⟩

set_option maxHeartbeats 400000 in
theorem addEvent_q (mc mt c t : Int) (h : vectorOkB mc mt c t true false = true) (w : World) :
    Calls Try.prog 57 #[.agg #[.int .i64 mc, .int .i64 mt, .int .i64 c, .int .i64 t, .bool true, .bool false]] w fun e w' => ∃ c', vectorOkB mc mt c' t true false = true ∧ e = .returned (.agg #[.int .i64 mc, .int .i64 mt, .int .i64 c', .int .i64 t, .bool true, .bool false]) ∧ Ex w w' := by
  have h1 := vok_event h
  simp only [Bool.false_or, Bool.not_true, Bool.and_false] at h1
  exact (addEvent_t mc mt c t true false h w).mono fun e w' ⟨he, hx⟩ => ⟨_, h1, by rw [he]; simp, hx⟩

set_option maxHeartbeats 400000 in
theorem tick_q (mc mt c t : Int) (h : vectorOkB mc mt c t true false = true) (w : World) :
    Calls Try.prog 17 #[.agg #[.int .i64 mc, .int .i64 mt, .int .i64 c, .int .i64 t, .bool true, .bool false]] w fun e w' => ∃ t', vectorOkB mc mt c t' true false = true ∧ e = .returned (.agg #[.int .i64 mc, .int .i64 mt, .int .i64 c, .int .i64 t', .bool true, .bool false]) ∧ Ex w w' := by
  by_cases hz : 0 < c
  · have h1 := vok_tick h hz
    simp only [Bool.false_or, Bool.not_true, Bool.and_false] at h1
    exact (tickVector_t mc mt c t true false h hz w).mono fun e w' ⟨he, hx⟩ => ⟨_, h1, by rw [he]; simp, hx⟩
  · exact (tickVector_z mc mt c t true false h (by omega) w).mono fun e w' ⟨he, hx⟩ => ⟨_, h, by rw [he]; simp, hx⟩

set_option maxRecDepth 100000 in
set_option maxHeartbeats 4000000 in
theorem walk_FnInterruptComes (w : World) (code : Value) (codeD : List UInt8) (hcode : Holds w codeD [code]) :
    Calls Try.prog 12 #[code] w fun e w' => e = .returned (.bool true) ∧ Ex w w' := by
  obtain ⟨a, cap, hv, l1, l2, l3⟩ := hcode.bytes
  simp only [List.cons.injEq, and_true] at hv
  subst hv
  clear l3
  by_cases hbig : 1048576 < codeD.length
  · have HQ := hid (decide_eq_true hbig)
    go_enter Try.func12, Try.ntmps12
    go_wp2_with fail
    (with_reducible refine (big_v _ codeD _ hcode HQ.out).mono ?_); rintro e w' ⟨rfl, rfl⟩
    go_wp2
    go_ret
    exact ⟨rfl, (by repeat (first | (with_reducible exact Ex.refl _) | (with_reducible apply Ex.plus_add) | (with_reducible apply Ex.plus_drew) | (with_reducible apply Ex.plus) | (with_reducible apply Ex.alloc) | (with_reducible apply Ex.drew)))⟩
  have HQ := hid (decide_eq_false hbig)
  go_enter Try.func12, Try.ntmps12
  go_wp2_with fail
  (with_reducible refine (big_v _ codeD _ hcode HQ.out).mono ?_); rintro e w' ⟨rfl, rfl⟩
  go_wp2_with fail
  (with_reducible refine (drawVector_any _ codeD _ hcode).mono ?_); rintro e w' ⟨mc, mt, c, t, m, r, hok, rfl, hx⟩; obtain ⟨g1, rfl⟩ := hx
  have HOK := hid hok
  clear hok
  go_wp2_with fail
  (with_reducible refine (addEvent_p _ _ _ _ _ _ HOK.out _).mono ?_); rintro e w' ⟨c', r', hok2, hc, rfl, hx⟩; obtain ⟨g2, rfl⟩ := hx
  have HOK2 := hid hok2
  clear hok2
  cases m
  all_goals
    go_wp2_with fail
    first | ((with_reducible refine (unmask_p _ _ _ _ _ _ HOK2.out _).mono ?_); rintro e w' ⟨r'', hok3, rfl, hx⟩; obtain ⟨g3, rfl⟩ := hx; have HOK2 := hid hok3; clear hok3; generalize r'' = R at *; go_wp2_with fail) | generalize r' = R at *
    obtain ⟨n, hn⟩ : ∃ n : Int, n = if R then 0 else mt - t := ⟨_, rfl⟩
    have key : 0 ≤ n ∧ n ≤ mt ∧ n ≤ 64 ∧ (0 < n → R = false ∧ mt - t = n ∧ c' < mc) ∧ (0 = n → R = true) := by
      obtain ⟨_, _, _, _, _, _, _, _⟩ := vok_bd HOK2.out
      have h2 := (vok_iff.1 HOK2.out).2.2
      cases R
      · simp at h2 hn ⊢; omega
      · simp at h2 hn; subst hn; simp; omega
    obtain ⟨n0, n1, n2, n3, n4⟩ := key
    (with_reducible refine (ticks_p _ _ _ _ _ _ HOK2.out rfl hc hn _).mono ?_); rintro e w' ⟨rfl, hx⟩; obtain ⟨g4, rfl⟩ := hx
    have N3 := hid n3
    have N4 := hid n4
    clear n3 n4 hn
    go_wp2_with fail
    generalize hVd : w.heap.size + g1.o.size = V
    have lV : w.heap.size ≤ V := by omega
    have HVD := hid hVd
    clear hVd
    go_loopw [5] (fun q wr => ∃ (k t : Int) (r : Bool), q = .int .i64 k ∧ 0 ≤ k ∧ k ≤ n ∧ vectorOkB mc mt c' t false r = true ∧ (k < n → r = false ∧ mt - t = n - k ∧ c' < mc) ∧ (k = n → r = true) ∧ Ex w wr ∧
      wr.heap[V]? = some (.cells #[.int .i64 mc, .int .i64 mt, .int .i64 c', .int .i64 t, .bool false, .bool r] 24 (0, 0))) (fun q _ => (n - intOf q).toNat)
    case atStart =>
      have hVd := HVD.out
      exact ⟨0, t, R, rfl, by omega, n0, HOK2.out, fun h => ⟨(N3.out h).1, by have := (N3.out h).2.1; omega, (N3.out h).2.2⟩, fun h => N4.out h, (by repeat (first | (with_reducible exact Ex.refl _) | (with_reducible refine Ex.plus ?_ _) | (with_reducible refine Ex.drew ?_) | (with_reducible refine Ex.alloc ?_ _) | (with_reducible refine Ex.upd1 ?_ (by first | assumption | omega | (simp; done) | (simp; omega))) | (with_reducible refine Ex.setCell ?_ (by first | assumption | omega | (simp; done) | (simp; omega)) _))), (by (repeat (first | (with_reducible refine row_plus ?_) | (with_reducible refine row_drew ?_) | (with_reducible exact row_allocN (by first | assumption | (simp; done) | (simp; omega))) | (with_reducible refine row_allocO ?_) | (with_reducible refine row_updN (by first | assumption | exact Ne.symm (by assumption) | (simp; omega)) ?_) | (with_reducible refine row_setO (by first | assumption | exact Ne.symm (by assumption) | (simp; omega)) ?_))); try exact hVd)⟩
    case round =>
      obtain ⟨k, t, r, rfl, k0, k1, hok, hr1, hr2, hx, hV⟩ := hrel
      have d0 : wr.cell? ⟨V, 0, none⟩ = some (.int .i64 mc) := by rw [cell_row hV]; rfl
      have d1 : wr.cell? ⟨V, 1, none⟩ = some (.int .i64 mt) := by rw [cell_row hV]; rfl
      have d2 : wr.cell? ⟨V, 2, none⟩ = some (.int .i64 c') := by rw [cell_row hV]; rfl
      have d3 : wr.cell? ⟨V, 3, none⟩ = some (.int .i64 t) := by rw [cell_row hV]; rfl
      have d4 : wr.cell? ⟨V, 4, none⟩ = some (.bool false) := by rw [cell_row hV]; rfl
      have d5 : wr.cell? ⟨V, 5, none⟩ = some (.bool r) := by rw [cell_row hV]; rfl
      have f0 := frozen_row hV 0
      have f1 := frozen_row hV 1
      have f2 := frozen_row hV 2
      have f3 := frozen_row hV 3
      have f4 := frozen_row hV 4
      have f5 := frozen_row hV 5
      have lV' := row_lt hV
      have HV := hid hV
      have HX := hid hx
      have HOK := hid hok
      have HR := hid hr1
      clear hV hx hok hr1
      by_cases hlt : k < n
      · obtain ⟨rfl, e1, e2⟩ := HR.out hlt
        clear hr2
        go_wp2_with (first
              | ((with_reducible refine (tick_p _ _ _ _ HOK.out hc _).mono ?_); rintro e w' ⟨r2, hok2, rfl, hx⟩; obtain ⟨g5, rfl⟩ := hx; have HOK2 := hid hok2; clear hok2))
        go_roundw
        case rel =>
          have h1 := (vok_iff.1 HOK2.out).2.2
          refine ⟨k + 1, t + 1, r2, rfl, by omega, by omega, HOK2.out, fun h => ?_, fun h => ?_, (by repeat (first | (with_reducible exact HX.out) | (with_reducible refine Ex.plus ?_ _) | (with_reducible refine Ex.drew ?_) | (with_reducible refine Ex.alloc ?_ _) | (with_reducible refine Ex.upd1 ?_ (by first | assumption | omega | (simp; done) | (simp; omega))) | (with_reducible refine Ex.setCell ?_ (by first | assumption | omega | (simp; done) | (simp; omega)) _))), (by (repeat (first | (with_reducible refine row_plus ?_) | (with_reducible refine row_drew ?_) | (with_reducible exact row_allocN (by first | assumption | (simp; done) | (simp; omega))) | (with_reducible refine row_allocO ?_) | (with_reducible refine row_updN (by first | assumption | exact Ne.symm (by assumption) | (simp; omega)) ?_) | (with_reducible refine row_setO (by first | assumption | exact Ne.symm (by assumption) | (simp; omega)) ?_))); try exact row_set6 HV.out)⟩
          · cases r2
            · exact ⟨rfl, by omega, e2⟩
            · simp at h1; omega
          · cases r2
            · simp at h1; omega
            · rfl
        case measure => simp [intOf]; omega
      · obtain rfl : k = n := by omega
        obtain rfl := hr2 rfl
        have HQ := hid (vok_take HOK.out)
        go_wp2_with (first
              | (go_at_call 60; (with_reducible refine (takeInterrupt_t _ _ _ _ _ HOK.out _).mono ?_); rintro e w' ⟨rfl, hx⟩; obtain ⟨g, rfl⟩ := hx)
              | (go_at_call 61; (with_reducible refine (vectorOk_v HQ.out _).mono ?_); rintro e w' ⟨rfl, hx⟩; obtain ⟨g, rfl⟩ := hx))
        go_ret
        exact ⟨rfl, (by repeat (first | (with_reducible exact HX.out) | (with_reducible refine Ex.plus ?_ _) | (with_reducible refine Ex.drew ?_) | (with_reducible refine Ex.alloc ?_ _) | (with_reducible refine Ex.upd1 ?_ (by first | assumption | omega | (simp; done) | (simp; omega))) | (with_reducible refine Ex.setCell ?_ (by first | assumption | omega | (simp; done) | (simp; omega)) _)))⟩

set_option maxHeartbeats 400000 in
theorem unmask_q (mc mt c t : Int) (h : vectorOkB mc mt c t true false = true) {d : Bool} (hd : dueB mc mt c t = d) (w : World) :
    Calls Try.prog 58 #[.agg #[.int .i64 mc, .int .i64 mt, .int .i64 c, .int .i64 t, .bool true, .bool false]] w fun e w' => e = .returned (.agg #[.int .i64 mc, .int .i64 mt, .int .i64 c, .int .i64 t, .bool false, .bool d]) ∧ Ex w w' := by
  exact (unmask_t mc mt c t true false h w).mono fun e w' ⟨he, hx⟩ => ⟨by rw [he, hd]; simp, hx⟩

set_option maxRecDepth 100000 in
set_option maxHeartbeats 4000000 in
theorem walk_FnInterruptsFew (w : World) (code : Value) (codeD : List UInt8) (hcode : Holds w codeD [code]) :
    Calls Try.prog 13 #[code] w fun e w' => e = .returned (.bool true) ∧ Ex w w' := by
  obtain ⟨a, cap, hv, l1, l2, l3⟩ := hcode.bytes
  simp only [List.cons.injEq, and_true] at hv
  subst hv
  clear l3
  by_cases hbig : 1048576 < codeD.length
  · have HQ := hid (decide_eq_true hbig)
    go_enter Try.func13, Try.ntmps13
    go_wp2_with fail
    (with_reducible refine (big_v _ codeD _ hcode HQ.out).mono ?_); rintro e w' ⟨rfl, rfl⟩
    go_wp2
    go_ret
    exact ⟨rfl, (by repeat (first | (with_reducible exact Ex.refl _) | (with_reducible apply Ex.plus_add) | (with_reducible apply Ex.plus_drew) | (with_reducible apply Ex.plus) | (with_reducible apply Ex.alloc) | (with_reducible apply Ex.drew)))⟩
  have HQ := hid (decide_eq_false hbig)
  go_enter Try.func13, Try.ntmps13
  go_wp2_with fail
  (with_reducible refine (big_v _ codeD _ hcode HQ.out).mono ?_); rintro e w' ⟨rfl, rfl⟩
  go_wp2_with fail
  (with_reducible refine (drawVector_any _ codeD _ hcode).mono ?_); rintro e w' ⟨mc, mt, c, t, m, r, hok, rfl, hx⟩; obtain ⟨g1, rfl⟩ := hx
  have HOK := hid hok
  clear hok
  go_wp2_with fail
  (with_reducible refine (maskVector_p _ _ _ _ _ _ HOK.out _).mono ?_); rintro e w' ⟨hok2, rfl, hx⟩; obtain ⟨g2, rfl⟩ := hx
  have HOK2 := hid hok2
  clear hok2
  go_wp2_with fail
  generalize hVd : w.heap.size + g1.o.size = V
  have lV : w.heap.size ≤ V := by omega
  have HVD := hid hVd
  clear hVd
  go_loopw [4] (fun q wr => ∃ (k c t : Int), q = .int .i64 k ∧ 0 ≤ k ∧ k ≤ 6 ∧ vectorOkB mc mt c t true false = true ∧ Ex w wr ∧
    wr.heap[V]? = some (.cells #[.int .i64 mc, .int .i64 mt, .int .i64 c, .int .i64 t, .bool true, .bool false] 24 (0, 0))) (fun q _ => (6 - intOf q).toNat)
  case atStart =>
    have hVd := HVD.out
    exact ⟨0, c, t, rfl, by omega, by omega, HOK2.out, (by repeat (first | (with_reducible exact Ex.refl _) | (with_reducible refine Ex.plus ?_ _) | (with_reducible refine Ex.drew ?_) | (with_reducible refine Ex.alloc ?_ _) | (with_reducible refine Ex.upd1 ?_ (by first | assumption | omega | (simp; done) | (simp; omega))) | (with_reducible refine Ex.setCell ?_ (by first | assumption | omega | (simp; done) | (simp; omega)) _))), (by (repeat (first | (with_reducible refine row_plus ?_) | (with_reducible refine row_drew ?_) | (with_reducible exact row_allocN (by first | assumption | (simp; done) | (simp; omega))) | (with_reducible refine row_allocO ?_) | (with_reducible refine row_updN (by first | assumption | exact Ne.symm (by assumption) | (simp; omega)) ?_) | (with_reducible refine row_setO (by first | assumption | exact Ne.symm (by assumption) | (simp; omega)) ?_))); try exact hVd)⟩
  case round =>
    obtain ⟨k, c, t, rfl, k0, k1, hok, hx, hV⟩ := hrel
    have d0 : wr.cell? ⟨V, 0, none⟩ = some (.int .i64 mc) := by rw [cell_row hV]; rfl
    have d1 : wr.cell? ⟨V, 1, none⟩ = some (.int .i64 mt) := by rw [cell_row hV]; rfl
    have d2 : wr.cell? ⟨V, 2, none⟩ = some (.int .i64 c) := by rw [cell_row hV]; rfl
    have d3 : wr.cell? ⟨V, 3, none⟩ = some (.int .i64 t) := by rw [cell_row hV]; rfl
    have d4 : wr.cell? ⟨V, 4, none⟩ = some (.bool true) := by rw [cell_row hV]; rfl
    have d5 : wr.cell? ⟨V, 5, none⟩ = some (.bool false) := by rw [cell_row hV]; rfl
    have f0 := frozen_row hV 0
    have f1 := frozen_row hV 1
    have f2 := frozen_row hV 2
    have f3 := frozen_row hV 3
    have f4 := frozen_row hV 4
    have f5 := frozen_row hV 5
    have lV' := row_lt hV
    have HV := hid hV
    have HX := hid hx
    have HOK := hid hok
    clear hV hx hok
    by_cases hlt : k < 6
    · go_wp2_with (first
            | (go_at_call 23; (with_reducible refine (at_any _ codeD _ _ (hcode.ex (by repeat (first | (with_reducible exact HX.out) | (with_reducible refine Ex.plus ?_ _) | (with_reducible refine Ex.drew ?_) | (with_reducible refine Ex.alloc ?_ _) | (with_reducible refine Ex.upd1 ?_ (by first | assumption | omega | (simp; done) | (simp; omega))) | (with_reducible refine Ex.setCell ?_ (by first | assumption | omega | (simp; done) | (simp; omega)) _)))) k0 (by omega)).mono ?_); rintro e w' ⟨y, y0, y1, rfl, rfl⟩)
            | (go_at_call 57; (with_reducible refine (addEvent_q _ _ _ _ HOK.out _).mono ?_); rintro e w' ⟨c2, hok2, rfl, hx⟩; obtain ⟨g5, rfl⟩ := hx; have HOK2 := hid hok2; clear hok2)
            | (go_at_call 17; (with_reducible refine (tick_q _ _ _ _ HOK.out _).mono ?_); rintro e w' ⟨t2, hok2, rfl, hx⟩; obtain ⟨g5, rfl⟩ := hx; have HOK2 := hid hok2; clear hok2)
            | (go_at_call 60; (with_reducible refine (takeInterrupt_n _ _ _ _ _ HOK2.out _).mono ?_); rintro e w' ⟨rfl, hx⟩; obtain ⟨g, rfl⟩ := hx)
            | (go_at_call 61; (with_reducible refine (vectorOk_v HOK2.out _).mono ?_); rintro e w' ⟨rfl, hx⟩; obtain ⟨g, rfl⟩ := hx))
      all_goals
        go_roundw
        case rel => exact ⟨k + 1, _, _, rfl, by omega, by omega, HOK2.out, (by repeat (first | (with_reducible exact HX.out) | (with_reducible refine Ex.plus ?_ _) | (with_reducible refine Ex.drew ?_) | (with_reducible refine Ex.alloc ?_ _) | (with_reducible refine Ex.upd1 ?_ (by first | assumption | omega | (simp; done) | (simp; omega))) | (with_reducible refine Ex.setCell ?_ (by first | assumption | omega | (simp; done) | (simp; omega)) _))), (by (repeat (first | (with_reducible refine row_plus ?_) | (with_reducible refine row_drew ?_) | (with_reducible exact row_allocN (by first | assumption | (simp; done) | (simp; omega))) | (with_reducible refine row_allocO ?_) | (with_reducible refine row_updN (by first | assumption | exact Ne.symm (by assumption) | (simp; omega)) ?_) | (with_reducible refine row_setO (by first | assumption | exact Ne.symm (by assumption) | (simp; omega)) ?_))); try exact row_set6 HV.out)⟩
        case measure => simp [intOf]; omega
    · by_cases q1 : 1 ≤ c <;> by_cases q2 : mc ≤ c <;> by_cases q3 : mt ≤ t
      all_goals
        have hd : dueB mc mt c t = (decide (1 ≤ c) && (decide (mc ≤ c) || decide (mt ≤ t))) := rfl
        simp [q1, q2, q3] at hd
        have HD := hid hd
        clear hd
        go_wp2_with (first
              | (go_at_call 58; (with_reducible refine (unmask_q _ _ _ _ HOK.out HD.out _).mono ?_); rintro e w' ⟨rfl, hx⟩; obtain ⟨g5, rfl⟩ := hx))
        go_ret
        exact ⟨ret_bool (by first | rfl | (simp; omega)), (by repeat (first | (with_reducible exact HX.out) | (with_reducible refine Ex.plus ?_ _) | (with_reducible refine Ex.drew ?_) | (with_reducible refine Ex.alloc ?_ _) | (with_reducible refine Ex.upd1 ?_ (by first | assumption | omega | (simp; done) | (simp; omega))) | (with_reducible refine Ex.setCell ?_ (by first | assumption | omega | (simp; done) | (simp; omega)) _)))⟩

end Go.Proofs.Ytlpipllhbobfbaa
