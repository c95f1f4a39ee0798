/- A drawn vector is a valid vector. -/
import Derived.Test.YtlpipllhbobfbaaRows
import Derived.Test.YtlpipllhbobfbaaVecF
import Derived.Test.YtlpipllhbobfbaaCur
namespace Go.Proofs.Ytlpipllhbobfbaa
open Go.RowKit
set_option linter.unusedVariables false

theorem row_set6 {w : World} {b : Nat} {x0 x1 x2 x3 x4 x5 y0 y1 y2 y3 y4 y5 : Value} {E : TypeId} {fr : Nat × Nat} (h : w.heap[b]? = some (.cells #[x0, x1, x2, x3, x4, x5] E fr)) : ((((((w.setCell ⟨b, 0, none⟩ y0).setCell ⟨b, 1, none⟩ y1).setCell ⟨b, 2, none⟩ y2).setCell ⟨b, 3, none⟩ y3).setCell ⟨b, 4, none⟩ y4).setCell ⟨b, 5, none⟩ y5).heap[b]? = some (.cells #[y0, y1, y2, y3, y4, y5] E fr) := (row_setCell (row_setCell (row_setCell (row_setCell (row_setCell (row_setCell h 0 y0) 1 y1) 2 y2) 3 y3) 4 y4) 5 y5)
def RetVec (w : World) (e : Ending) (w' : World) : Prop := ∃ (mc mt c t : Int) (m r : Bool), vectorOkB mc mt c t m r = true ∧ e = .returned (.agg #[.int .i64 mc, .int .i64 mt, .int .i64 c, .int .i64 t, .bool m, .bool r]) ∧ Ex w w'
def DrawnVec (T : TypeId) (B : Nat) (v : Value) (n : Nat) (w : World) (e : Ending) (w' : World) : Prop := ∃ (mc mt c t : Int) (m r : Bool), vectorOkB mc mt c t m r = true ∧ e = .returned (.agg #[.int .i64 mc, .int .i64 mt, .int .i64 c, .int .i64 t, .bool m, .bool r]) ∧ Drw T B v n w w'
def RetVecB (w : World) (e : Ending) (w' : World) : Prop := ∃ (mc mt c t : Int) (m r b : Bool), vectorOkB mc mt c t m r = true ∧ e = .returned (.tuple #[.agg #[.int .i64 mc, .int .i64 mt, .int .i64 c, .int .i64 t, .bool m, .bool r], .bool b]) ∧ Ex w w'
theorem vok_iff {mc mt c t : Int} {m r : Bool} : vectorOkB mc mt c t m r = true ↔ (1 ≤ mc ∧ mc ≤ 64 ∧ 0 ≤ mt ∧ mt ≤ 64 ∧ 0 ≤ c ∧ c ≤ 1000000 ∧ 0 ≤ t ∧ t ≤ 1000000) ∧ (0 < c ∨ t = 0) ∧ (r = true ↔ (1 ≤ c ∧ (mc ≤ c ∨ mt ≤ t)) ∧ m = false) := by
  cases m <;> cases r <;> simp [vectorOkB, inB, dueB] <;> omega
theorem due_iff {mc mt c t : Int} : dueB mc mt c t = true ↔ (1 ≤ c ∧ (mc ≤ c ∨ mt ≤ t)) := by simp [dueB]
theorem vok_event {mc mt c t : Int} {m r : Bool} (h : vectorOkB mc mt c t m r = true) : vectorOkB mc mt (min (c + 1) 1000000) t m (r || (dueB mc mt (min (c + 1) 1000000) t && !m)) = true := by
  rw [vok_iff] at h ⊢
  simp only [Bool.or_eq_true, Bool.and_eq_true, due_iff, Bool.not_eq_true']
  cases m <;> cases r <;> simp_all <;> omega
theorem vok_tick {mc mt c t : Int} {m r : Bool} (h : vectorOkB mc mt c t m r = true) (hc : 0 < c) : vectorOkB mc mt c (min (t + 1) 1000000) m (r || (dueB mc mt c (min (t + 1) 1000000) && !m)) = true := by
  rw [vok_iff] at h ⊢
  simp only [Bool.or_eq_true, Bool.and_eq_true, due_iff, Bool.not_eq_true']
  cases m <;> cases r <;> simp_all <;> omega
theorem vok_same {mc mt c t : Int} {m r : Bool} (h : vectorOkB mc mt c t m r = true) : vectorOkB mc mt c t m (r || (dueB mc mt c t && !m)) = true := by
  rw [vok_iff] at h ⊢
  simp only [Bool.or_eq_true, Bool.and_eq_true, due_iff, Bool.not_eq_true']
  cases m <;> cases r <;> simp_all
theorem vok_unmask {mc mt c t : Int} {m r : Bool} (h : vectorOkB mc mt c t m r = true) : vectorOkB mc mt c t false (r || (dueB mc mt c t && !false)) = true := by
  rw [vok_iff] at h ⊢
  simp only [Bool.or_eq_true, Bool.and_eq_true, due_iff, Bool.not_eq_true']
  cases m <;> cases r <;> simp_all
theorem vok_mask {mc mt c t : Int} {m r : Bool} (h : vectorOkB mc mt c t m r = true) : vectorOkB mc mt c t true false = true := by
  rw [vok_iff] at h ⊢
  simp_all
theorem vok_take {mc mt c t : Int} {m r : Bool} (h : vectorOkB mc mt c t m r = true) : vectorOkB mc mt 0 0 true false = true := by
  rw [vok_iff] at h ⊢
  simp_all
theorem vok_new {a b : Int} (h1 : 1 ≤ a) (h2 : a ≤ 64) (h3 : 0 ≤ b) (h4 : b ≤ 64) : vectorOkB a b 0 0 false false = true := by
  rw [vok_iff]
  simp; omega

theorem addEvent_r (mc mt c t : Int) (m r : Bool) (h : vectorOkB mc mt c t m r = true) (w : World) :
    Calls Try.prog 57 #[.agg #[.int .i64 mc, .int .i64 mt, .int .i64 c, .int .i64 t, .bool m, .bool r]] w (RetVec w) := by
  exact (addEvent_t mc mt c t m r h w).mono fun e w' ⟨he, hx⟩ => ⟨_, _, _, _, _, _, vok_event h, he, hx⟩
theorem tickVector_r (mc mt c t : Int) (m r : Bool) (h : vectorOkB mc mt c t m r = true) (w : World) :
    Calls Try.prog 17 #[.agg #[.int .i64 mc, .int .i64 mt, .int .i64 c, .int .i64 t, .bool m, .bool r]] w (RetVec w) := by
  by_cases hz : 0 < c
  · exact (tickVector_t mc mt c t m r h hz w).mono fun e w' ⟨he, hx⟩ => ⟨_, _, _, _, _, _, vok_tick h hz, he, hx⟩
  · exact (tickVector_z mc mt c t m r h (by omega) w).mono fun e w' ⟨he, hx⟩ => ⟨_, _, _, _, _, _, vok_same h, he, hx⟩
theorem unmask_r (mc mt c t : Int) (m r : Bool) (h : vectorOkB mc mt c t m r = true) (w : World) :
    Calls Try.prog 58 #[.agg #[.int .i64 mc, .int .i64 mt, .int .i64 c, .int .i64 t, .bool m, .bool r]] w (RetVec w) := by
  exact (unmask_t mc mt c t m r h w).mono fun e w' ⟨he, hx⟩ => ⟨_, _, _, _, _, _, vok_unmask h, he, hx⟩
theorem maskVector_r (mc mt c t : Int) (m r : Bool) (h : vectorOkB mc mt c t m r = true) (w : World) :
    Calls Try.prog 62 #[.agg #[.int .i64 mc, .int .i64 mt, .int .i64 c, .int .i64 t, .bool m, .bool r]] w (RetVec w) := by
  exact (maskVector_t mc mt c t m r h w).mono fun e w' ⟨he, hx⟩ => ⟨_, _, _, _, _, _, vok_mask h, he, hx⟩
theorem takeInterrupt_r (mc mt c t : Int) (m r : Bool) (h : vectorOkB mc mt c t m r = true) (w : World) :
    Calls Try.prog 60 #[.agg #[.int .i64 mc, .int .i64 mt, .int .i64 c, .int .i64 t, .bool m, .bool r]] w (RetVecB w) := by
  cases r
  · exact (takeInterrupt_n mc mt c t m h w).mono fun e w' ⟨he, hx⟩ => ⟨_, _, _, _, _, _, _, h, he, hx⟩
  · exact (takeInterrupt_t mc mt c t m h w).mono fun e w' ⟨he, hx⟩ => ⟨_, _, _, _, _, _, _, vok_take h, he, hx⟩
theorem addEventS_r (mc mt c t : Int) (m r : Bool) (h : vectorOkB mc mt c t m r = true) (w : World) :
    Calls Try.prog 113 #[.agg #[.int .i64 mc, .int .i64 mt, .int .i64 c, .int .i64 t, .bool m, .bool r]] w (RetVec w) := by
  exact (addEventS_t mc mt c t m r h w).mono fun e w' ⟨he, hx⟩ => ⟨_, _, _, _, _, _, vok_event h, he, hx⟩
theorem tickVectorS_r (mc mt c t : Int) (m r : Bool) (h : vectorOkB mc mt c t m r = true) (w : World) :
    Calls Try.prog 15 #[.agg #[.int .i64 mc, .int .i64 mt, .int .i64 c, .int .i64 t, .bool m, .bool r]] w (RetVec w) := by
  by_cases hz : 0 < c
  · exact (tickVectorS_t mc mt c t m r h hz w).mono fun e w' ⟨he, hx⟩ => ⟨_, _, _, _, _, _, vok_tick h hz, he, hx⟩
  · exact (tickVectorS_z mc mt c t m r h (by omega) w).mono fun e w' ⟨he, hx⟩ => ⟨_, _, _, _, _, _, vok_same h, he, hx⟩
theorem unmaskS_r (mc mt c t : Int) (m r : Bool) (h : vectorOkB mc mt c t m r = true) (w : World) :
    Calls Try.prog 112 #[.agg #[.int .i64 mc, .int .i64 mt, .int .i64 c, .int .i64 t, .bool m, .bool r]] w (RetVec w) := by
  exact (unmaskS_t mc mt c t m r h w).mono fun e w' ⟨he, hx⟩ => ⟨_, _, _, _, _, _, vok_unmask h, he, hx⟩
theorem maskVectorS_r (mc mt c t : Int) (m r : Bool) (h : vectorOkB mc mt c t m r = true) (w : World) :
    Calls Try.prog 110 #[.agg #[.int .i64 mc, .int .i64 mt, .int .i64 c, .int .i64 t, .bool m, .bool r]] w (RetVec w) := by
  exact (maskVectorS_t mc mt c t m r h w).mono fun e w' ⟨he, hx⟩ => ⟨_, _, _, _, _, _, vok_mask h, he, hx⟩
theorem takeInterruptS_r (mc mt c t : Int) (m r : Bool) (h : vectorOkB mc mt c t m r = true) (w : World) :
    Calls Try.prog 111 #[.agg #[.int .i64 mc, .int .i64 mt, .int .i64 c, .int .i64 t, .bool m, .bool r]] w (RetVecB w) := by
  cases r
  · exact (takeInterruptS_n mc mt c t m h w).mono fun e w' ⟨he, hx⟩ => ⟨_, _, _, _, _, _, _, h, he, hx⟩
  · exact (takeInterruptS_t mc mt c t m h w).mono fun e w' ⟨he, hx⟩ => ⟨_, _, _, _, _, _, _, vok_take h, he, hx⟩

set_option maxRecDepth 100000 in
set_option maxHeartbeats 4000000 in
theorem l28Vector_any (B : Nat) (v : Value) (code : List UInt8) (w0 w : World) (hcu : Cu 129 w0 B v code w) :
    Calls Try.prog 93 #[.pointer (some ⟨B, 0, none⟩)] w (DrawnVec 129 B v code.length w) := by
  have hmv := hcu.mv
  have lB := hcu.lt
  have ls := hcu.exo.size
  go_enter Try.func93, Try.ntmps93
  go_wp2_with fail
  (with_reducible refine (l01Below_any B v code _ w0 _ (by repeat (first | (with_reducible exact hcu) | (with_reducible refine Cu.plus ?_ _) | (with_reducible refine Cu.alloc ?_ _) | (with_reducible refine Cu.drew ?_) | (with_reducible refine Cu.upd ?_ (by assumption) (by assumption)) | (with_reducible refine Cu.updO ?_ (by first | assumption | omega | (simp; omega)) (by first | assumption | exact Ne.symm (by assumption) | (simp; omega))) | (with_reducible refine Cu.setCell ?_ (by first | assumption | omega | (simp; omega)) (by first | assumption | exact Ne.symm (by assumption) | (simp; omega)) _))) (by omega) (by omega)).mono ?_); rintro e w' ⟨x1, i1, h1, g1, x1l, x1h, i1l, i1h, rfl, rfl⟩
  go_wp2_with fail
  (with_reducible refine (l01Below_any B v code _ w0 _ (by repeat (first | (with_reducible exact hcu) | (with_reducible refine Cu.plus ?_ _) | (with_reducible refine Cu.alloc ?_ _) | (with_reducible refine Cu.drew ?_) | (with_reducible refine Cu.upd ?_ (by assumption) (by assumption)) | (with_reducible refine Cu.updO ?_ (by first | assumption | omega | (simp; omega)) (by first | assumption | exact Ne.symm (by assumption) | (simp; omega))) | (with_reducible refine Cu.setCell ?_ (by first | assumption | omega | (simp; omega)) (by first | assumption | exact Ne.symm (by assumption) | (simp; omega)) _))) (by omega) (by omega)).mono ?_); rintro e w' ⟨x2, i2, h2, g2, x2l, x2h, i2l, i2h, rfl, rfl⟩
  go_wp2_with fail
  (with_reducible refine (newVectorS_t _ _ (vok_new (by omega) (by omega) (by omega) (by omega)) _).mono ?_); rintro e w' ⟨rfl, hx⟩; obtain ⟨g3, rfl⟩ := hx
  go_wp2_with fail
  (with_reducible refine (l01Below_any B v code _ w0 _ (by repeat (first | (with_reducible exact hcu) | (with_reducible refine Cu.plus ?_ _) | (with_reducible refine Cu.alloc ?_ _) | (with_reducible refine Cu.drew ?_) | (with_reducible refine Cu.upd ?_ (by assumption) (by assumption)) | (with_reducible refine Cu.updO ?_ (by first | assumption | omega | (simp; omega)) (by first | assumption | exact Ne.symm (by assumption) | (simp; omega))) | (with_reducible refine Cu.setCell ?_ (by first | assumption | omega | (simp; omega)) (by first | assumption | exact Ne.symm (by assumption) | (simp; omega)) _))) (by omega) (by omega)).mono ?_); rintro e w' ⟨x4, i4, h4, g4, x4l, x4h, i4l, i4h, rfl, rfl⟩
  go_wp2
  generalize hVd : w.heap.size + 1 + ((g1.add g2).add g3).o.size = V
  have nV : V ≠ B := by omega
  have nW : V ≠ w.heap.size := by omega
  have nWB : w.heap.size ≠ B := by omega
  have lV : w.heap.size ≤ V := by omega
  have HVD := hid hVd
  clear hVd
  go_loopw [5] (fun q wr => ∃ (k mc mt c t : Int) (m r : Bool), q = .int .i64 k ∧ 0 ≤ k ∧ k ≤ 7 ∧ vectorOkB mc mt c t m r = true ∧ Mv 129 B v code.length w wr ∧
      wr.heap[V]? = some (.cells #[.int .i64 mc, .int .i64 mt, .int .i64 c, .int .i64 t, .bool m, .bool r] 24 (0, 0)) ∧ 
      wr.heap[w.heap.size]? = some (.cells #[.int .i64 0, .int .i64 0, .int .i64 0, .int .i64 0, .bool false, .bool false] 24 (0, 0))) (fun q _ => (intOf q).toNat)
  case atStart =>
    have hVd := HVD.out
    exact ⟨_, 1 + x1, x2, 0, 0, false, false, rfl, by omega, by omega, vok_new (by omega) (by omega) (by omega) (by omega), (by repeat (first | (with_reducible exact hmv) | (with_reducible refine Mv.plus ?_ _) | (with_reducible refine Mv.alloc ?_ _) | (with_reducible refine Mv.drew ?_) | (with_reducible refine Mv.upd ?_ (by assumption) (by assumption)) | (with_reducible refine Mv.updO ?_ (by first | assumption | omega | (simp; omega)) (by first | assumption | exact Ne.symm (by assumption) | (simp; omega))) | (with_reducible refine Mv.setCell ?_ (by first | assumption | omega | (simp; done) | (simp; omega)) (by first | assumption | exact Ne.symm (by assumption) | (simp; omega)) _))), (by (repeat (first | (with_reducible refine row_plus ?_) | (with_reducible refine row_drew ?_) | (with_reducible exact row_allocN (by first | assumption | (simp; done) | (simp; omega))) | (with_reducible refine row_allocO ?_) | (with_reducible refine row_updN (by first | assumption | exact Ne.symm (by assumption) | (simp; omega)) ?_) | (with_reducible refine row_setO (by first | assumption | exact Ne.symm (by assumption) | (simp; omega)) ?_))); try exact hVd), (by (repeat (first | (with_reducible refine row_plus ?_) | (with_reducible refine row_drew ?_) | (with_reducible exact row_allocN (by first | assumption | (simp; done) | (simp; omega))) | (with_reducible refine row_allocO ?_) | (with_reducible refine row_updN (by first | assumption | exact Ne.symm (by assumption) | (simp; omega)) ?_) | (with_reducible refine row_setO (by first | assumption | exact Ne.symm (by assumption) | (simp; omega)) ?_))); try exact hVd)⟩
  case round =>
    obtain ⟨k, mc, mt, c, t, m, r, rfl, k0, k1, hok, hmr, hV, hW⟩ := hrel
    replace hcu := hcu.moved hmr
    have lV' := row_lt hV
    have d0 : wr.cell? ⟨V, 0, none⟩ = some (.int .i64 mc) := by rw [cell_row hV]; rfl
    have d1 : wr.cell? ⟨V, 1, none⟩ = some (.int .i64 mt) := by rw [cell_row hV]; rfl
    have d2 : wr.cell? ⟨V, 2, none⟩ = some (.int .i64 c) := by rw [cell_row hV]; rfl
    have d3 : wr.cell? ⟨V, 3, none⟩ = some (.int .i64 t) := by rw [cell_row hV]; rfl
    have d4 : wr.cell? ⟨V, 4, none⟩ = some (.bool m) := by rw [cell_row hV]; rfl
    have d5 : wr.cell? ⟨V, 5, none⟩ = some (.bool r) := by rw [cell_row hV]; rfl
    have f0 := frozen_row hV 0
    have f1 := frozen_row hV 1
    have f2 := frozen_row hV 2
    have f3 := frozen_row hV 3
    have f4 := frozen_row hV 4
    have f5 := frozen_row hV 5
    have dw0 : wr.cell? ⟨w.heap.size, 0, none⟩ = some (.int .i64 0) := by rw [cell_row hW]; rfl
    have dw1 : wr.cell? ⟨w.heap.size, 1, none⟩ = some (.int .i64 0) := by rw [cell_row hW]; rfl
    have dw2 : wr.cell? ⟨w.heap.size, 2, none⟩ = some (.int .i64 0) := by rw [cell_row hW]; rfl
    have dw3 : wr.cell? ⟨w.heap.size, 3, none⟩ = some (.int .i64 0) := by rw [cell_row hW]; rfl
    have dw4 : wr.cell? ⟨w.heap.size, 4, none⟩ = some (.bool false) := by rw [cell_row hW]; rfl
    have dw5 : wr.cell? ⟨w.heap.size, 5, none⟩ = some (.bool false) := by rw [cell_row hW]; rfl
    have fw0 := frozen_row hW 0
    have fw1 := frozen_row hW 1
    have fw2 := frozen_row hW 2
    have fw3 := frozen_row hW 3
    have fw4 := frozen_row hW 4
    have fw5 := frozen_row hW 5
    have lB' := hcu.lt
    have lW := row_lt hW
    have HOK := hid hok
    have HV := hid hV
    have HW := hid hW
    clear hok hV hW
    by_cases hk : 0 < k
    · go_wp2_with (first
          | (go_at_call 107; (with_reducible refine (l01Below_any B v code _ w0 _ (by repeat (first | (with_reducible exact hcu) | (with_reducible refine Cu.plus ?_ _) | (with_reducible refine Cu.alloc ?_ _) | (with_reducible refine Cu.drew ?_) | (with_reducible refine Cu.upd ?_ (by assumption) (by assumption)) | (with_reducible refine Cu.updO ?_ (by first | assumption | omega | (simp; omega)) (by first | assumption | exact Ne.symm (by assumption) | (simp; omega))) | (with_reducible refine Cu.setCell ?_ (by first | assumption | omega | (simp; omega)) (by first | assumption | exact Ne.symm (by assumption) | (simp; omega)) _))) (by omega) (by omega)).mono ?_); rintro e w' ⟨x, i, h, g, x0, x1, i0, i1, rfl, rfl⟩)
          | (go_at_call 110; (with_reducible refine (maskVectorS_r _ _ _ _ _ _ HOK.out _).mono ?_); rintro e w' ⟨mc', mt', c', t', m', r', hok', rfl, hx⟩; obtain ⟨g', rfl⟩ := hx)
          | (go_at_call 112; (with_reducible refine (unmaskS_r _ _ _ _ _ _ HOK.out _).mono ?_); rintro e w' ⟨mc', mt', c', t', m', r', hok', rfl, hx⟩; obtain ⟨g', rfl⟩ := hx)
          | (go_at_call 113; (with_reducible refine (addEventS_r _ _ _ _ _ _ HOK.out _).mono ?_); rintro e w' ⟨mc', mt', c', t', m', r', hok', rfl, hx⟩; obtain ⟨g', rfl⟩ := hx)
          | (go_at_call 15; (with_reducible refine (tickVectorS_r _ _ _ _ _ _ HOK.out _).mono ?_); rintro e w' ⟨mc', mt', c', t', m', r', hok', rfl, hx⟩; obtain ⟨g', rfl⟩ := hx)
          | (go_at_call 111; (with_reducible refine (takeInterruptS_r _ _ _ _ _ _ HOK.out _).mono ?_); rintro e w' ⟨mc', mt', c', t', m', r', b', hok', rfl, hx⟩; obtain ⟨g', rfl⟩ := hx))
      all_goals
        go_roundw
        case rel => exact ⟨k - 1, mc', mt', c', t', m', r', rfl, by omega, by omega, by assumption, (by repeat (first | (with_reducible exact hmr) | (with_reducible refine Mv.plus ?_ _) | (with_reducible refine Mv.alloc ?_ _) | (with_reducible refine Mv.drew ?_) | (with_reducible refine Mv.upd ?_ (by assumption) (by assumption)) | (with_reducible refine Mv.updO ?_ (by first | assumption | omega | (simp; omega)) (by first | assumption | exact Ne.symm (by assumption) | (simp; omega))) | (with_reducible refine Mv.setCell ?_ (by first | assumption | omega | (simp; done) | (simp; omega)) (by first | assumption | exact Ne.symm (by assumption) | (simp; omega)) _))), (by (repeat (first | (with_reducible refine row_plus ?_) | (with_reducible refine row_drew ?_) | (with_reducible exact row_allocN (by first | assumption | (simp; done) | (simp; omega))) | (with_reducible refine row_allocO ?_) | (with_reducible refine row_updN (by first | assumption | exact Ne.symm (by assumption) | (simp; omega)) ?_) | (with_reducible refine row_setO (by first | assumption | exact Ne.symm (by assumption) | (simp; omega)) ?_))); try exact row_set6 HV.out), (by (repeat (first | (with_reducible refine row_plus ?_) | (with_reducible refine row_drew ?_) | (with_reducible exact row_allocN (by first | assumption | (simp; done) | (simp; omega))) | (with_reducible refine row_allocO ?_) | (with_reducible refine row_updN (by first | assumption | exact Ne.symm (by assumption) | (simp; omega)) ?_) | (with_reducible refine row_setO (by first | assumption | exact Ne.symm (by assumption) | (simp; omega)) ?_))); try exact HW.out)⟩
        case measure => simp [intOf]; omega
    · go_wp2
      refine bodyPost_ret (v := _) (by simp [results, Try.results93, go_sem, dw0, dw1, dw2, dw3, dw4, dw5] <;> rfl) rfl ?_
      exact ⟨_, _, _, _, _, _, HOK.out, rfl, Mv.drw (by repeat (first | (with_reducible exact hmr) | (with_reducible refine Mv.plus ?_ _) | (with_reducible refine Mv.alloc ?_ _) | (with_reducible refine Mv.drew ?_) | (with_reducible refine Mv.upd ?_ (by assumption) (by assumption)) | (with_reducible refine Mv.updO ?_ (by first | assumption | omega | (simp; omega)) (by first | assumption | exact Ne.symm (by assumption) | (simp; omega))) | (with_reducible refine Mv.setCell ?_ (by first | assumption | omega | (simp; done) | (simp; omega)) (by first | assumption | exact Ne.symm (by assumption) | (simp; omega)) _))) lB⟩

end Go.Proofs.Ytlpipllhbobfbaa
