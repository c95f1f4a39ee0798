/- The walk of FnExactPaceLengths. -/
import Derived.Test.YtlpipllhbobfbaaRows
import Derived.Test.YtlpipllhbobfbaaPace
import Derived.Test.YtlpipllhbobfbaaInts
import Derived.Test.YtlpipllhbobfbaaMark
import Derived.Test.YtlpipllhbobfbaaLawsB1
namespace Go.Proofs.Ytlpipllhbobfbaa
open Go.RowKit
set_option linter.unusedVariables false


set_option maxHeartbeats 1000000 in
theorem heldIntS_any (v : Value) (n : Nat) (k : Int) (w : World) (k1 : Holds w (marks n k) [v]) (h0 : 0 ≤ k) (h1 : k + n ≤ 4611686018427387904) :
    Calls Try.prog 33 #[v, .int .i64 k] w fun e w' => e = .returned (.int .i64 (k + n)) ∧ w = w' := by
  obtain ⟨a, cap, hv, m1, m2, m3, _⟩ := k1.ints
  simp only [List.cons.injEq, and_true] at hv
  subst hv
  rw [marks_length] at m1 ⊢
  unfold maxLen at m2
  clear k1
  go_enter Try.func33, Try.ntmps33
  go_wp2
  go_loop [1, 5] (fun q i => ∃ j : Nat, j ≤ n ∧ q = .int .i64 (k + j) ∧ i = .int .i64 j) (fun _ i => n - (intOf i).toNat)
  case atStart => exact ⟨0, Nat.zero_le _, by simp, rfl⟩
  case round =>
    obtain ⟨j, hj, rfl, rfl⟩ := hrel
    by_cases hlt : j < n
    · obtain ⟨b, off, rfl, hc⟩ := m3 j (by rw [marks_length]; exact hlt)
      rw [marks_get] at hc
      clear m3
      go_wp2
      go_round
      case rel => exact ⟨j + 1, by omega, by go_num, by go_num⟩
      case measure => simp [intOf]; omega
    · obtain rfl : j = n := by omega
      clear m3
      go_wp2
      go_ret
      exact ⟨rfl, rfl⟩

theorem paceR_any (r b t0 : Int) (lv : Value) (ls : List Int) (n : Int) (w : World) (k1 : Holds w ls [lv]) (hl : ls.length ≤ 1048576) {R : List Int} (hR : R = paceV r b t0 ls n) :
    Calls Try.prog 21 #[.agg #[.int .i64 r, .int .i64 b, .int .i64 t0], lv, .int .i64 n] w (RetSl w R) := hR ▸ pace_any r b t0 lv ls n w k1 hl
theorem paceSR_any (r b t0 : Int) (lv : Value) (ls : List Int) (n : Int) (w : World) (k1 : Holds w ls [lv]) (hl : ls.length ≤ 1048576) {R : List Int} (hR : R = paceV r b t0 ls n) :
    Calls Try.prog 28 #[.agg #[.int .i64 r, .int .i64 b, .int .i64 t0], lv, .int .i64 n] w (RetSl w R) := hR ▸ paceS_any r b t0 lv ls n w k1 hl

set_option maxRecDepth 100000 in
set_option maxHeartbeats 4000000 in
theorem walk_FnExactPaceLengths (w : World) (aB_Rate : Int) (haB_Rate : i64ok aB_Rate) (aB_Burst : Int) (haB_Burst : i64ok aB_Burst) (aB_Tokens : Int) (haB_Tokens : i64ok aB_Tokens) (aLengths : Value) (aLengthsD : List Int) (haLengths : Holds w aLengthsD [aLengths]) (aTicks : Int) (haTicks : i64ok aTicks) :
    Calls Try.prog 6 #[.agg #[.int .i64 aB_Rate, .int .i64 aB_Burst, .int .i64 aB_Tokens], aLengths, .int .i64 aTicks] w fun e w' => e = .returned (.bool true) ∧ Ex w w' := by
  obtain ⟨a, cap, hv, l1, l2, l3⟩ := haLengths.ints
  simp only [List.cons.injEq, and_true] at hv
  subst hv
  clear l3
  unfold maxLen at l2
  by_cases hbig : 1048576 < aLengthsD.length
  case pos =>
    go_enter Try.func6, Try.ntmps6
    go_wp2
    go_ret
    exact ⟨rfl, (by repeat (first | (with_reducible exact Ex.refl _) | (with_reducible apply Ex.plus_add) | (with_reducible apply Ex.plus_drew) | (with_reducible apply Ex.plus) | (with_reducible apply Ex.alloc) | (with_reducible apply Ex.drew)))⟩
  case neg =>
  obtain ⟨RES, hR⟩ : ∃ R, R = paceV aB_Rate aB_Burst aB_Tokens aLengthsD aTicks := ⟨_, rfl⟩
  have hlen : RES.length ≤ 1048576 := by
    rw [hR, paceV]; split
    · rw [pace_len]; omega
    · simp
  have HR := hid hR
  clear hR
  go_enter Try.func6, Try.ntmps6
  go_wp2_with (first
        | (go_at_call 29; (with_reducible refine (toBucket_any _ _ _ _).mono ?_); rintro e w' ⟨rfl, hx⟩; obtain ⟨g, rfl⟩ := hx))
  (with_reducible refine (toIntS_any _ aLengthsD _ (haLengths.ex (by repeat (first | (with_reducible exact Ex.refl _) | (with_reducible apply Ex.drew) | (with_reducible apply Ex.plus_add) | (with_reducible apply Ex.plus_drew) | (with_reducible apply Ex.plus) | (with_reducible apply Ex.alloc) | (with_reducible refine Ex.upd1 ?_ (by first | (simp; done) | omega | (simp; omega))) | (with_reducible refine Ex.setCell ?_ (by first | (simp; done) | omega | (simp; omega)) _)))) (by omega)).mono ?_); rintro e W1 ⟨a_t1, c_t1, rfl, ho, hx1⟩
  have hp : Ex w _ := Ex.trans (show Ex w _ from (by repeat (first | (with_reducible exact Ex.refl _) | (with_reducible apply Ex.drew) | (with_reducible apply Ex.plus_add) | (with_reducible apply Ex.plus_drew) | (with_reducible apply Ex.plus) | (with_reducible apply Ex.alloc) | (with_reducible refine Ex.upd1 ?_ (by first | (simp; done) | omega | (simp; omega))) | (with_reducible refine Ex.setCell ?_ (by first | (simp; done) | omega | (simp; omega)) _)))) hx1
  have sz1 : w.heap.size ≤ W1.heap.size := hp.size
  have RB := hid (show W1.heap[w.heap.size]? = some (.cells #[.int .i64 aB_Rate, .int .i64 aB_Burst, .int .i64 aB_Tokens] 43 (0, 0)) from hx1.row (by (repeat (first | (with_reducible refine row_plus ?_) | (with_reducible refine row_drew ?_) | (with_reducible exact row_allocN (by first | assumption | (simp; done) | (simp; omega))) | (with_reducible refine row_allocO ?_) | (with_reducible refine row_updN (by first | assumption | exact Ne.symm (by assumption) | (simp; omega)) ?_) | (with_reducible refine row_setO (by first | assumption | exact Ne.symm (by assumption) | (simp; omega)) ?_) | (with_reducible refine row_updO (by assumption) ?_))); try exact rfl))
  obtain ⟨bs_t1, o_t1⟩ := ho.inn
  replace o_t1 := o_t1.lower (Ex.size (show Ex w _ from (by repeat (first | (with_reducible exact Ex.refl _) | (with_reducible apply Ex.drew) | (with_reducible apply Ex.plus_add) | (with_reducible apply Ex.plus_drew) | (with_reducible apply Ex.plus) | (with_reducible apply Ex.alloc) | (with_reducible refine Ex.upd1 ?_ (by first | (simp; done) | omega | (simp; omega))) | (with_reducible refine Ex.setCell ?_ (by first | (simp; done) | omega | (simp; omega)) _)))))
  have hx := hp
  have rbd0 : W1.cell? ⟨w.heap.size, 0, none⟩ = some (.int .i64 aB_Rate) := by rw [cell_row RB.out]; rfl
  have rbd1 : W1.cell? ⟨w.heap.size, 1, none⟩ = some (.int .i64 aB_Burst) := by rw [cell_row RB.out]; rfl
  have rbd2 : W1.cell? ⟨w.heap.size, 2, none⟩ = some (.int .i64 aB_Tokens) := by rw [cell_row RB.out]; rfl
  have rblt := row_lt RB.out
  have rbz : w.heap.size < W1.heap.size := row_lt RB.out
  clear hp hx1 ho
  go_wp2_with fail
  (with_reducible refine (paceSR_any _ _ _ _ aLengthsD _ _ (o_t1.holds.ex (by repeat (first | (with_reducible exact Ex.refl _) | (with_reducible apply Ex.drew) | (with_reducible apply Ex.plus_add) | (with_reducible apply Ex.plus_drew) | (with_reducible apply Ex.plus) | (with_reducible apply Ex.alloc) | (with_reducible refine Ex.upd1 ?_ (by first | (simp; done) | omega | (simp; omega))) | (with_reducible refine Ex.setCell ?_ (by first | (simp; done) | omega | (simp; omega)) _)))) (by omega) HR.out).mono ?_); rintro e W2 ⟨a_w0, c_w0, rfl, ho, hx1⟩
  have hp : Ex W1 _ := Ex.trans (show Ex W1 _ from (by repeat (first | (with_reducible exact Ex.refl _) | (with_reducible apply Ex.drew) | (with_reducible apply Ex.plus_add) | (with_reducible apply Ex.plus_drew) | (with_reducible apply Ex.plus) | (with_reducible apply Ex.alloc) | (with_reducible refine Ex.upd1 ?_ (by first | (simp; done) | omega | (simp; omega))) | (with_reducible refine Ex.setCell ?_ (by first | (simp; done) | omega | (simp; omega)) _)))) hx1
  have sz2 : W1.heap.size ≤ W2.heap.size := hp.size
  obtain ⟨bs_w0, o_w0⟩ := ho.inn
  replace o_w0 := o_w0.lower (Ex.size (show Ex W1 _ from (by repeat (first | (with_reducible exact Ex.refl _) | (with_reducible apply Ex.drew) | (with_reducible apply Ex.plus_add) | (with_reducible apply Ex.plus_drew) | (with_reducible apply Ex.plus) | (with_reducible apply Ex.alloc) | (with_reducible refine Ex.upd1 ?_ (by first | (simp; done) | omega | (simp; omega))) | (with_reducible refine Ex.setCell ?_ (by first | (simp; done) | omega | (simp; omega)) _)))))
  replace o_t1 := o_t1.ex hp
  clear rbd0 rbd1 rbd2 rblt
  replace hx := Ex.trans hx hp
  replace RB := hid (hp.row RB.out)
  have rbd0 : W2.cell? ⟨w.heap.size, 0, none⟩ = some (.int .i64 aB_Rate) := by rw [cell_row RB.out]; rfl
  have rbd1 : W2.cell? ⟨w.heap.size, 1, none⟩ = some (.int .i64 aB_Burst) := by rw [cell_row RB.out]; rfl
  have rbd2 : W2.cell? ⟨w.heap.size, 2, none⟩ = some (.int .i64 aB_Tokens) := by rw [cell_row RB.out]; rfl
  have rblt := row_lt RB.out
  clear hp hx1 ho
  go_wp2_with fail
  (with_reducible refine (toIntS_any _ aLengthsD _ (haLengths.ex (Ex.trans hx (by repeat (first | (with_reducible exact Ex.refl _) | (with_reducible apply Ex.drew) | (with_reducible apply Ex.plus_add) | (with_reducible apply Ex.plus_drew) | (with_reducible apply Ex.plus) | (with_reducible apply Ex.alloc) | (with_reducible refine Ex.upd1 ?_ (by first | (simp; done) | omega | (simp; omega))) | (with_reducible refine Ex.setCell ?_ (by first | (simp; done) | omega | (simp; omega)) _))))) (by omega)).mono ?_); rintro e W3 ⟨a_x1, c_x1, rfl, ho, hx1⟩
  have hp : Ex W2 _ := Ex.trans (show Ex W2 _ from (by repeat (first | (with_reducible exact Ex.refl _) | (with_reducible apply Ex.drew) | (with_reducible apply Ex.plus_add) | (with_reducible apply Ex.plus_drew) | (with_reducible apply Ex.plus) | (with_reducible apply Ex.alloc) | (with_reducible refine Ex.upd1 ?_ (by first | (simp; done) | omega | (simp; omega))) | (with_reducible refine Ex.setCell ?_ (by first | (simp; done) | omega | (simp; omega)) _)))) hx1
  have sz3 : W2.heap.size ≤ W3.heap.size := hp.size
  obtain ⟨bs_x1, o_x1⟩ := ho.inn
  replace o_x1 := o_x1.lower (Ex.size (show Ex W2 _ from (by repeat (first | (with_reducible exact Ex.refl _) | (with_reducible apply Ex.drew) | (with_reducible apply Ex.plus_add) | (with_reducible apply Ex.plus_drew) | (with_reducible apply Ex.plus) | (with_reducible apply Ex.alloc) | (with_reducible refine Ex.upd1 ?_ (by first | (simp; done) | omega | (simp; omega))) | (with_reducible refine Ex.setCell ?_ (by first | (simp; done) | omega | (simp; omega)) _)))))
  replace o_t1 := o_t1.ex hp
  replace o_w0 := o_w0.ex hp
  clear rbd0 rbd1 rbd2 rblt
  replace hx := Ex.trans hx hp
  replace RB := hid (hp.row RB.out)
  have rbd0 : W3.cell? ⟨w.heap.size, 0, none⟩ = some (.int .i64 aB_Rate) := by rw [cell_row RB.out]; rfl
  have rbd1 : W3.cell? ⟨w.heap.size, 1, none⟩ = some (.int .i64 aB_Burst) := by rw [cell_row RB.out]; rfl
  have rbd2 : W3.cell? ⟨w.heap.size, 2, none⟩ = some (.int .i64 aB_Tokens) := by rw [cell_row RB.out]; rfl
  have rblt := row_lt RB.out
  clear hp hx1 ho
  go_wp2_with (first
        | (go_at_call 29; (with_reducible refine (toBucket_any _ _ _ _).mono ?_); rintro e w' ⟨rfl, hx⟩; obtain ⟨g, rfl⟩ := hx))
  (with_reducible refine (paceR_any _ _ _ _ aLengthsD _ _ (o_x1.holds.ex (by repeat (first | (with_reducible exact Ex.refl _) | (with_reducible apply Ex.drew) | (with_reducible apply Ex.plus_add) | (with_reducible apply Ex.plus_drew) | (with_reducible apply Ex.plus) | (with_reducible apply Ex.alloc) | (with_reducible refine Ex.upd1 ?_ (by first | (simp; done) | omega | (simp; omega))) | (with_reducible refine Ex.setCell ?_ (by first | (simp; done) | omega | (simp; omega)) _)))) (by omega) HR.out).mono ?_); rintro e W4 ⟨a_g0, c_g0, rfl, ho, hx1⟩
  have hp : Ex W3 _ := Ex.trans (show Ex W3 _ from (by repeat (first | (with_reducible exact Ex.refl _) | (with_reducible apply Ex.drew) | (with_reducible apply Ex.plus_add) | (with_reducible apply Ex.plus_drew) | (with_reducible apply Ex.plus) | (with_reducible apply Ex.alloc) | (with_reducible refine Ex.upd1 ?_ (by first | (simp; done) | omega | (simp; omega))) | (with_reducible refine Ex.setCell ?_ (by first | (simp; done) | omega | (simp; omega)) _)))) hx1
  have sz4 : W3.heap.size ≤ W4.heap.size := hp.size
  obtain ⟨bs_g0, o_g0⟩ := ho.inn
  replace o_g0 := o_g0.lower (Ex.size (show Ex W3 _ from (by repeat (first | (with_reducible exact Ex.refl _) | (with_reducible apply Ex.drew) | (with_reducible apply Ex.plus_add) | (with_reducible apply Ex.plus_drew) | (with_reducible apply Ex.plus) | (with_reducible apply Ex.alloc) | (with_reducible refine Ex.upd1 ?_ (by first | (simp; done) | omega | (simp; omega))) | (with_reducible refine Ex.setCell ?_ (by first | (simp; done) | omega | (simp; omega)) _)))))
  replace o_t1 := o_t1.ex hp
  replace o_w0 := o_w0.ex hp
  replace o_x1 := o_x1.ex hp
  clear rbd0 rbd1 rbd2 rblt
  replace hx := Ex.trans hx hp
  replace RB := hid (hp.row RB.out)
  have rbd0 : W4.cell? ⟨w.heap.size, 0, none⟩ = some (.int .i64 aB_Rate) := by rw [cell_row RB.out]; rfl
  have rbd1 : W4.cell? ⟨w.heap.size, 1, none⟩ = some (.int .i64 aB_Burst) := by rw [cell_row RB.out]; rfl
  have rbd2 : W4.cell? ⟨w.heap.size, 2, none⟩ = some (.int .i64 aB_Tokens) := by rw [cell_row RB.out]; rfl
  have rblt := row_lt RB.out
  clear hp hx1 ho
  go_wp2_with (first
        | (go_at_call 31; (first | (with_reducible refine (eqIntS_same _ _ _ _ (o_g0.holds.ex (by repeat (first | (with_reducible exact Ex.refl _) | (with_reducible apply Ex.drew) | (with_reducible apply Ex.plus_add) | (with_reducible apply Ex.plus_drew) | (with_reducible apply Ex.plus) | (with_reducible apply Ex.alloc) | (with_reducible refine Ex.upd1 ?_ (by first | (simp; done) | omega | (simp; omega))) | (with_reducible refine Ex.setCell ?_ (by first | (simp; done) | omega | (simp; omega)) _)))) (o_w0.holds.ex (by repeat (first | (with_reducible exact Ex.refl _) | (with_reducible apply Ex.drew) | (with_reducible apply Ex.plus_add) | (with_reducible apply Ex.plus_drew) | (with_reducible apply Ex.plus) | (with_reducible apply Ex.alloc) | (with_reducible refine Ex.upd1 ?_ (by first | (simp; done) | omega | (simp; omega))) | (with_reducible refine Ex.setCell ?_ (by first | (simp; done) | omega | (simp; omega)) _))))).mono ?_)); rintro e w' ⟨rfl, hx⟩; obtain ⟨g, rfl⟩ := hx))
  (with_reducible refine (toIntS_any _ aLengthsD _ (haLengths.ex (Ex.trans hx (by repeat (first | (with_reducible exact Ex.refl _) | (with_reducible apply Ex.drew) | (with_reducible apply Ex.plus_add) | (with_reducible apply Ex.plus_drew) | (with_reducible apply Ex.plus) | (with_reducible apply Ex.alloc) | (with_reducible refine Ex.upd1 ?_ (by first | (simp; done) | omega | (simp; omega))) | (with_reducible refine Ex.setCell ?_ (by first | (simp; done) | omega | (simp; omega)) _))))) (by omega)).mono ?_); rintro e W5 ⟨a_t2, c_t2, rfl, ho, hx1⟩
  have hp : Ex W4 _ := Ex.trans (show Ex W4 _ from (by repeat (first | (with_reducible exact Ex.refl _) | (with_reducible apply Ex.drew) | (with_reducible apply Ex.plus_add) | (with_reducible apply Ex.plus_drew) | (with_reducible apply Ex.plus) | (with_reducible apply Ex.alloc) | (with_reducible refine Ex.upd1 ?_ (by first | (simp; done) | omega | (simp; omega))) | (with_reducible refine Ex.setCell ?_ (by first | (simp; done) | omega | (simp; omega)) _)))) hx1
  have sz5 : W4.heap.size ≤ W5.heap.size := hp.size
  obtain ⟨bs_t2, o_t2⟩ := ho.inn
  replace o_t2 := o_t2.lower (Ex.size (show Ex W4 _ from (by repeat (first | (with_reducible exact Ex.refl _) | (with_reducible apply Ex.drew) | (with_reducible apply Ex.plus_add) | (with_reducible apply Ex.plus_drew) | (with_reducible apply Ex.plus) | (with_reducible apply Ex.alloc) | (with_reducible refine Ex.upd1 ?_ (by first | (simp; done) | omega | (simp; omega))) | (with_reducible refine Ex.setCell ?_ (by first | (simp; done) | omega | (simp; omega)) _)))))
  replace o_t1 := o_t1.ex hp
  replace o_w0 := o_w0.ex hp
  replace o_x1 := o_x1.ex hp
  replace o_g0 := o_g0.ex hp
  clear rbd0 rbd1 rbd2 rblt
  replace hx := Ex.trans hx hp
  replace RB := hid (hp.row RB.out)
  have rbd0 : W5.cell? ⟨w.heap.size, 0, none⟩ = some (.int .i64 aB_Rate) := by rw [cell_row RB.out]; rfl
  have rbd1 : W5.cell? ⟨w.heap.size, 1, none⟩ = some (.int .i64 aB_Burst) := by rw [cell_row RB.out]; rfl
  have rbd2 : W5.cell? ⟨w.heap.size, 2, none⟩ = some (.int .i64 aB_Tokens) := by rw [cell_row RB.out]; rfl
  have rblt := row_lt RB.out
  clear hp hx1 ho
  go_wp2_with (first
        | (go_at_call 31; (first | (with_reducible refine (eqIntS_same _ _ _ _ (o_x1.holds.ex (by repeat (first | (with_reducible exact Ex.refl _) | (with_reducible apply Ex.drew) | (with_reducible apply Ex.plus_add) | (with_reducible apply Ex.plus_drew) | (with_reducible apply Ex.plus) | (with_reducible apply Ex.alloc) | (with_reducible refine Ex.upd1 ?_ (by first | (simp; done) | omega | (simp; omega))) | (with_reducible refine Ex.setCell ?_ (by first | (simp; done) | omega | (simp; omega)) _)))) (o_t2.holds.ex (by repeat (first | (with_reducible exact Ex.refl _) | (with_reducible apply Ex.drew) | (with_reducible apply Ex.plus_add) | (with_reducible apply Ex.plus_drew) | (with_reducible apply Ex.plus) | (with_reducible apply Ex.alloc) | (with_reducible refine Ex.upd1 ?_ (by first | (simp; done) | omega | (simp; omega))) | (with_reducible refine Ex.setCell ?_ (by first | (simp; done) | omega | (simp; omega)) _))))).mono ?_)); rintro e w' ⟨rfl, hx⟩; obtain ⟨g, rfl⟩ := hx))
  (with_reducible refine (markIntS_any _ aLengthsD _ 1 _ (o_x1.ex (by repeat (first | (with_reducible exact Ex.refl _) | (with_reducible apply Ex.drew) | (with_reducible apply Ex.plus_add) | (with_reducible apply Ex.plus_drew) | (with_reducible apply Ex.plus) | (with_reducible apply Ex.alloc) | (with_reducible refine Ex.upd1 ?_ (by first | (simp; done) | omega | (simp; omega))) | (with_reducible refine Ex.setCell ?_ (by first | (simp; done) | omega | (simp; omega)) _)))).tree (o_x1.ex (by repeat (first | (with_reducible exact Ex.refl _) | (with_reducible apply Ex.drew) | (with_reducible apply Ex.plus_add) | (with_reducible apply Ex.plus_drew) | (with_reducible apply Ex.plus) | (with_reducible apply Ex.alloc) | (with_reducible refine Ex.upd1 ?_ (by first | (simp; done) | omega | (simp; omega))) | (with_reducible refine Ex.setCell ?_ (by first | (simp; done) | omega | (simp; omega)) _)))).fz (by omega) (by omega)).mono ?_); rintro e W6 ⟨mf, mg, rfl, hw, ht, hf⟩
  have rng := o_x1.rng
  have sz6 : W5.heap.size ≤ W6.heap.size := size_marked (by repeat (first | (with_reducible exact Ex.refl _) | (with_reducible apply Ex.drew) | (with_reducible apply Ex.plus_add) | (with_reducible apply Ex.plus_drew) | (with_reducible apply Ex.plus) | (with_reducible apply Ex.alloc) | (with_reducible refine Ex.upd1 ?_ (by first | (simp; done) | omega | (simp; omega))) | (with_reducible refine Ex.setCell ?_ (by first | (simp; done) | omega | (simp; omega)) _))) hw
  replace o_t1 := o_t1.marked (by repeat (first | (with_reducible exact Ex.refl _) | (with_reducible apply Ex.drew) | (with_reducible apply Ex.plus_add) | (with_reducible apply Ex.plus_drew) | (with_reducible apply Ex.plus) | (with_reducible apply Ex.alloc) | (with_reducible refine Ex.upd1 ?_ (by first | (simp; done) | omega | (simp; omega))) | (with_reducible refine Ex.setCell ?_ (by first | (simp; done) | omega | (simp; omega)) _))) hw (fun c hc => by have := rng c hc; omega)
  replace o_w0 := o_w0.marked (by repeat (first | (with_reducible exact Ex.refl _) | (with_reducible apply Ex.drew) | (with_reducible apply Ex.plus_add) | (with_reducible apply Ex.plus_drew) | (with_reducible apply Ex.plus) | (with_reducible apply Ex.alloc) | (with_reducible refine Ex.upd1 ?_ (by first | (simp; done) | omega | (simp; omega))) | (with_reducible refine Ex.setCell ?_ (by first | (simp; done) | omega | (simp; omega)) _))) hw (fun c hc => by have := rng c hc; omega)
  replace o_g0 := o_g0.marked (by repeat (first | (with_reducible exact Ex.refl _) | (with_reducible apply Ex.drew) | (with_reducible apply Ex.plus_add) | (with_reducible apply Ex.plus_drew) | (with_reducible apply Ex.plus) | (with_reducible apply Ex.alloc) | (with_reducible refine Ex.upd1 ?_ (by first | (simp; done) | omega | (simp; omega))) | (with_reducible refine Ex.setCell ?_ (by first | (simp; done) | omega | (simp; omega)) _))) hw (fun c hc => by have := rng c hc; omega)
  replace o_t2 := o_t2.marked (by repeat (first | (with_reducible exact Ex.refl _) | (with_reducible apply Ex.drew) | (with_reducible apply Ex.plus_add) | (with_reducible apply Ex.plus_drew) | (with_reducible apply Ex.plus) | (with_reducible apply Ex.alloc) | (with_reducible refine Ex.upd1 ?_ (by first | (simp; done) | omega | (simp; omega))) | (with_reducible refine Ex.setCell ?_ (by first | (simp; done) | omega | (simp; omega)) _))) hw (fun c hc => by have := rng c hc; omega)
  replace o_x1 := OwnsIn.mk' ht o_x1.nd rng hf
  clear rbd0 rbd1 rbd2 rblt
  replace hx := hx.marked (by repeat (first | (with_reducible exact Ex.refl _) | (with_reducible apply Ex.drew) | (with_reducible apply Ex.plus_add) | (with_reducible apply Ex.plus_drew) | (with_reducible apply Ex.plus) | (with_reducible apply Ex.alloc) | (with_reducible refine Ex.upd1 ?_ (by first | (simp; done) | omega | (simp; omega))) | (with_reducible refine Ex.setCell ?_ (by first | (simp; done) | omega | (simp; omega)) _))) hw (fun c hc => by have := rng c hc; omega)
  replace RB := hid (row_marked RB.out (by repeat (first | (with_reducible exact Ex.refl _) | (with_reducible apply Ex.drew) | (with_reducible apply Ex.plus_add) | (with_reducible apply Ex.plus_drew) | (with_reducible apply Ex.plus) | (with_reducible apply Ex.alloc) | (with_reducible refine Ex.upd1 ?_ (by first | (simp; done) | omega | (simp; omega))) | (with_reducible refine Ex.setCell ?_ (by first | (simp; done) | omega | (simp; omega)) _))) hw (fun h => by have := rng _ h; omega))
  have rbd0 : W6.cell? ⟨w.heap.size, 0, none⟩ = some (.int .i64 aB_Rate) := by rw [cell_row RB.out]; rfl
  have rbd1 : W6.cell? ⟨w.heap.size, 1, none⟩ = some (.int .i64 aB_Burst) := by rw [cell_row RB.out]; rfl
  have rbd2 : W6.cell? ⟨w.heap.size, 2, none⟩ = some (.int .i64 aB_Tokens) := by rw [cell_row RB.out]; rfl
  have rblt := row_lt RB.out
  clear rng hw ht hf
  go_wp2_with (first
        | (go_at_call 31; (first | (with_reducible refine (eqIntS_same _ _ _ _ (o_g0.holds.ex (by repeat (first | (with_reducible exact Ex.refl _) | (with_reducible apply Ex.drew) | (with_reducible apply Ex.plus_add) | (with_reducible apply Ex.plus_drew) | (with_reducible apply Ex.plus) | (with_reducible apply Ex.alloc) | (with_reducible refine Ex.upd1 ?_ (by first | (simp; done) | omega | (simp; omega))) | (with_reducible refine Ex.setCell ?_ (by first | (simp; done) | omega | (simp; omega)) _)))) (o_w0.holds.ex (by repeat (first | (with_reducible exact Ex.refl _) | (with_reducible apply Ex.drew) | (with_reducible apply Ex.plus_add) | (with_reducible apply Ex.plus_drew) | (with_reducible apply Ex.plus) | (with_reducible apply Ex.alloc) | (with_reducible refine Ex.upd1 ?_ (by first | (simp; done) | omega | (simp; omega))) | (with_reducible refine Ex.setCell ?_ (by first | (simp; done) | omega | (simp; omega)) _))))).mono ?_)); rintro e w' ⟨rfl, hx⟩; obtain ⟨g, rfl⟩ := hx))
  (with_reducible refine (markIntS_any _ RES _ 1 _ (o_g0.ex (by repeat (first | (with_reducible exact Ex.refl _) | (with_reducible apply Ex.drew) | (with_reducible apply Ex.plus_add) | (with_reducible apply Ex.plus_drew) | (with_reducible apply Ex.plus) | (with_reducible apply Ex.alloc) | (with_reducible refine Ex.upd1 ?_ (by first | (simp; done) | omega | (simp; omega))) | (with_reducible refine Ex.setCell ?_ (by first | (simp; done) | omega | (simp; omega)) _)))).tree (o_g0.ex (by repeat (first | (with_reducible exact Ex.refl _) | (with_reducible apply Ex.drew) | (with_reducible apply Ex.plus_add) | (with_reducible apply Ex.plus_drew) | (with_reducible apply Ex.plus) | (with_reducible apply Ex.alloc) | (with_reducible refine Ex.upd1 ?_ (by first | (simp; done) | omega | (simp; omega))) | (with_reducible refine Ex.setCell ?_ (by first | (simp; done) | omega | (simp; omega)) _)))).fz (by omega) (by omega)).mono ?_); rintro e W7 ⟨mf, mg, rfl, hw, ht, hf⟩
  have rng := o_g0.rng
  have sz7 : W6.heap.size ≤ W7.heap.size := size_marked (by repeat (first | (with_reducible exact Ex.refl _) | (with_reducible apply Ex.drew) | (with_reducible apply Ex.plus_add) | (with_reducible apply Ex.plus_drew) | (with_reducible apply Ex.plus) | (with_reducible apply Ex.alloc) | (with_reducible refine Ex.upd1 ?_ (by first | (simp; done) | omega | (simp; omega))) | (with_reducible refine Ex.setCell ?_ (by first | (simp; done) | omega | (simp; omega)) _))) hw
  replace o_t1 := o_t1.marked (by repeat (first | (with_reducible exact Ex.refl _) | (with_reducible apply Ex.drew) | (with_reducible apply Ex.plus_add) | (with_reducible apply Ex.plus_drew) | (with_reducible apply Ex.plus) | (with_reducible apply Ex.alloc) | (with_reducible refine Ex.upd1 ?_ (by first | (simp; done) | omega | (simp; omega))) | (with_reducible refine Ex.setCell ?_ (by first | (simp; done) | omega | (simp; omega)) _))) hw (fun c hc => by have := rng c hc; omega)
  replace o_w0 := o_w0.marked (by repeat (first | (with_reducible exact Ex.refl _) | (with_reducible apply Ex.drew) | (with_reducible apply Ex.plus_add) | (with_reducible apply Ex.plus_drew) | (with_reducible apply Ex.plus) | (with_reducible apply Ex.alloc) | (with_reducible refine Ex.upd1 ?_ (by first | (simp; done) | omega | (simp; omega))) | (with_reducible refine Ex.setCell ?_ (by first | (simp; done) | omega | (simp; omega)) _))) hw (fun c hc => by have := rng c hc; omega)
  replace o_x1 := o_x1.marked (by repeat (first | (with_reducible exact Ex.refl _) | (with_reducible apply Ex.drew) | (with_reducible apply Ex.plus_add) | (with_reducible apply Ex.plus_drew) | (with_reducible apply Ex.plus) | (with_reducible apply Ex.alloc) | (with_reducible refine Ex.upd1 ?_ (by first | (simp; done) | omega | (simp; omega))) | (with_reducible refine Ex.setCell ?_ (by first | (simp; done) | omega | (simp; omega)) _))) hw (fun c hc => by have := rng c hc; omega)
  replace o_t2 := o_t2.marked (by repeat (first | (with_reducible exact Ex.refl _) | (with_reducible apply Ex.drew) | (with_reducible apply Ex.plus_add) | (with_reducible apply Ex.plus_drew) | (with_reducible apply Ex.plus) | (with_reducible apply Ex.alloc) | (with_reducible refine Ex.upd1 ?_ (by first | (simp; done) | omega | (simp; omega))) | (with_reducible refine Ex.setCell ?_ (by first | (simp; done) | omega | (simp; omega)) _))) hw (fun c hc => by have := rng c hc; omega)
  replace o_g0 := OwnsIn.mk' ht o_g0.nd rng hf
  clear rbd0 rbd1 rbd2 rblt
  replace hx := hx.marked (by repeat (first | (with_reducible exact Ex.refl _) | (with_reducible apply Ex.drew) | (with_reducible apply Ex.plus_add) | (with_reducible apply Ex.plus_drew) | (with_reducible apply Ex.plus) | (with_reducible apply Ex.alloc) | (with_reducible refine Ex.upd1 ?_ (by first | (simp; done) | omega | (simp; omega))) | (with_reducible refine Ex.setCell ?_ (by first | (simp; done) | omega | (simp; omega)) _))) hw (fun c hc => by have := rng c hc; omega)
  replace RB := hid (row_marked RB.out (by repeat (first | (with_reducible exact Ex.refl _) | (with_reducible apply Ex.drew) | (with_reducible apply Ex.plus_add) | (with_reducible apply Ex.plus_drew) | (with_reducible apply Ex.plus) | (with_reducible apply Ex.alloc) | (with_reducible refine Ex.upd1 ?_ (by first | (simp; done) | omega | (simp; omega))) | (with_reducible refine Ex.setCell ?_ (by first | (simp; done) | omega | (simp; omega)) _))) hw (fun h => by have := rng _ h; omega))
  have rbd0 : W7.cell? ⟨w.heap.size, 0, none⟩ = some (.int .i64 aB_Rate) := by rw [cell_row RB.out]; rfl
  have rbd1 : W7.cell? ⟨w.heap.size, 1, none⟩ = some (.int .i64 aB_Burst) := by rw [cell_row RB.out]; rfl
  have rbd2 : W7.cell? ⟨w.heap.size, 2, none⟩ = some (.int .i64 aB_Tokens) := by rw [cell_row RB.out]; rfl
  have rblt := row_lt RB.out
  clear rng hw ht hf
  go_wp2_with (first
        | (go_at_call 33; (with_reducible refine (heldIntS_any _ RES.length 1 _ (o_g0.holds.ex (by repeat (first | (with_reducible exact Ex.refl _) | (with_reducible apply Ex.drew) | (with_reducible apply Ex.plus_add) | (with_reducible apply Ex.plus_drew) | (with_reducible apply Ex.plus) | (with_reducible apply Ex.alloc) | (with_reducible refine Ex.upd1 ?_ (by first | (simp; done) | omega | (simp; omega))) | (with_reducible refine Ex.setCell ?_ (by first | (simp; done) | omega | (simp; omega)) _)))) (by omega) (by omega)).mono ?_); rintro e w' ⟨rfl, rfl⟩)
        | (go_at_call 29; (with_reducible refine (toBucket_any _ _ _ _).mono ?_); rintro e w' ⟨rfl, hx⟩; obtain ⟨g, rfl⟩ := hx))
  (with_reducible refine (toIntS_any _ aLengthsD _ (haLengths.ex (Ex.trans hx (by repeat (first | (with_reducible exact Ex.refl _) | (with_reducible apply Ex.drew) | (with_reducible apply Ex.plus_add) | (with_reducible apply Ex.plus_drew) | (with_reducible apply Ex.plus) | (with_reducible apply Ex.alloc) | (with_reducible refine Ex.upd1 ?_ (by first | (simp; done) | omega | (simp; omega))) | (with_reducible refine Ex.setCell ?_ (by first | (simp; done) | omega | (simp; omega)) _))))) (by omega)).mono ?_); rintro e W8 ⟨a_t3, c_t3, rfl, ho, hx1⟩
  have hp : Ex W7 _ := Ex.trans (show Ex W7 _ from (by repeat (first | (with_reducible exact Ex.refl _) | (with_reducible apply Ex.drew) | (with_reducible apply Ex.plus_add) | (with_reducible apply Ex.plus_drew) | (with_reducible apply Ex.plus) | (with_reducible apply Ex.alloc) | (with_reducible refine Ex.upd1 ?_ (by first | (simp; done) | omega | (simp; omega))) | (with_reducible refine Ex.setCell ?_ (by first | (simp; done) | omega | (simp; omega)) _)))) hx1
  have sz8 : W7.heap.size ≤ W8.heap.size := hp.size
  obtain ⟨bs_t3, o_t3⟩ := ho.inn
  replace o_t3 := o_t3.lower (Ex.size (show Ex W7 _ from (by repeat (first | (with_reducible exact Ex.refl _) | (with_reducible apply Ex.drew) | (with_reducible apply Ex.plus_add) | (with_reducible apply Ex.plus_drew) | (with_reducible apply Ex.plus) | (with_reducible apply Ex.alloc) | (with_reducible refine Ex.upd1 ?_ (by first | (simp; done) | omega | (simp; omega))) | (with_reducible refine Ex.setCell ?_ (by first | (simp; done) | omega | (simp; omega)) _)))))
  replace o_t1 := o_t1.ex hp
  replace o_w0 := o_w0.ex hp
  replace o_x1 := o_x1.ex hp
  replace o_g0 := o_g0.ex hp
  replace o_t2 := o_t2.ex hp
  clear rbd0 rbd1 rbd2 rblt
  replace hx := Ex.trans hx hp
  replace RB := hid (hp.row RB.out)
  have rbd0 : W8.cell? ⟨w.heap.size, 0, none⟩ = some (.int .i64 aB_Rate) := by rw [cell_row RB.out]; rfl
  have rbd1 : W8.cell? ⟨w.heap.size, 1, none⟩ = some (.int .i64 aB_Burst) := by rw [cell_row RB.out]; rfl
  have rbd2 : W8.cell? ⟨w.heap.size, 2, none⟩ = some (.int .i64 aB_Tokens) := by rw [cell_row RB.out]; rfl
  have rblt := row_lt RB.out
  clear hp hx1 ho
  go_wp2_with fail
  (with_reducible refine (paceR_any _ _ _ _ aLengthsD _ _ (o_t3.holds.ex (by repeat (first | (with_reducible exact Ex.refl _) | (with_reducible apply Ex.drew) | (with_reducible apply Ex.plus_add) | (with_reducible apply Ex.plus_drew) | (with_reducible apply Ex.plus) | (with_reducible apply Ex.alloc) | (with_reducible refine Ex.upd1 ?_ (by first | (simp; done) | omega | (simp; omega))) | (with_reducible refine Ex.setCell ?_ (by first | (simp; done) | omega | (simp; omega)) _)))) (by omega) HR.out).mono ?_); rintro e W9 ⟨a_h0, c_h0, rfl, ho, hx1⟩
  have hp : Ex W8 _ := Ex.trans (show Ex W8 _ from (by repeat (first | (with_reducible exact Ex.refl _) | (with_reducible apply Ex.drew) | (with_reducible apply Ex.plus_add) | (with_reducible apply Ex.plus_drew) | (with_reducible apply Ex.plus) | (with_reducible apply Ex.alloc) | (with_reducible refine Ex.upd1 ?_ (by first | (simp; done) | omega | (simp; omega))) | (with_reducible refine Ex.setCell ?_ (by first | (simp; done) | omega | (simp; omega)) _)))) hx1
  have sz9 : W8.heap.size ≤ W9.heap.size := hp.size
  obtain ⟨bs_h0, o_h0⟩ := ho.inn
  replace o_h0 := o_h0.lower (Ex.size (show Ex W8 _ from (by repeat (first | (with_reducible exact Ex.refl _) | (with_reducible apply Ex.drew) | (with_reducible apply Ex.plus_add) | (with_reducible apply Ex.plus_drew) | (with_reducible apply Ex.plus) | (with_reducible apply Ex.alloc) | (with_reducible refine Ex.upd1 ?_ (by first | (simp; done) | omega | (simp; omega))) | (with_reducible refine Ex.setCell ?_ (by first | (simp; done) | omega | (simp; omega)) _)))))
  replace o_t1 := o_t1.ex hp
  replace o_w0 := o_w0.ex hp
  replace o_x1 := o_x1.ex hp
  replace o_g0 := o_g0.ex hp
  replace o_t2 := o_t2.ex hp
  replace o_t3 := o_t3.ex hp
  clear rbd0 rbd1 rbd2 rblt
  replace hx := Ex.trans hx hp
  replace RB := hid (hp.row RB.out)
  have rbd0 : W9.cell? ⟨w.heap.size, 0, none⟩ = some (.int .i64 aB_Rate) := by rw [cell_row RB.out]; rfl
  have rbd1 : W9.cell? ⟨w.heap.size, 1, none⟩ = some (.int .i64 aB_Burst) := by rw [cell_row RB.out]; rfl
  have rbd2 : W9.cell? ⟨w.heap.size, 2, none⟩ = some (.int .i64 aB_Tokens) := by rw [cell_row RB.out]; rfl
  have rblt := row_lt RB.out
  clear hp hx1 ho
  go_wp2_with (first
        | (go_at_call 31; (first | (with_reducible refine (eqIntS_same _ _ _ _ (o_h0.holds.ex (by repeat (first | (with_reducible exact Ex.refl _) | (with_reducible apply Ex.drew) | (with_reducible apply Ex.plus_add) | (with_reducible apply Ex.plus_drew) | (with_reducible apply Ex.plus) | (with_reducible apply Ex.alloc) | (with_reducible refine Ex.upd1 ?_ (by first | (simp; done) | omega | (simp; omega))) | (with_reducible refine Ex.setCell ?_ (by first | (simp; done) | omega | (simp; omega)) _)))) (o_w0.holds.ex (by repeat (first | (with_reducible exact Ex.refl _) | (with_reducible apply Ex.drew) | (with_reducible apply Ex.plus_add) | (with_reducible apply Ex.plus_drew) | (with_reducible apply Ex.plus) | (with_reducible apply Ex.alloc) | (with_reducible refine Ex.upd1 ?_ (by first | (simp; done) | omega | (simp; omega))) | (with_reducible refine Ex.setCell ?_ (by first | (simp; done) | omega | (simp; omega)) _))))).mono ?_)); rintro e w' ⟨rfl, hx⟩; obtain ⟨g, rfl⟩ := hx)
        | (go_at_call 33; (with_reducible refine (heldIntS_any _ RES.length 1 _ (o_g0.holds.ex (by repeat (first | (with_reducible exact Ex.refl _) | (with_reducible apply Ex.drew) | (with_reducible apply Ex.plus_add) | (with_reducible apply Ex.plus_drew) | (with_reducible apply Ex.plus) | (with_reducible apply Ex.alloc) | (with_reducible refine Ex.upd1 ?_ (by first | (simp; done) | omega | (simp; omega))) | (with_reducible refine Ex.setCell ?_ (by first | (simp; done) | omega | (simp; omega)) _)))) (by omega) (by omega)).mono ?_); rintro e w' ⟨rfl, rfl⟩))
  go_ret
  exact ⟨rfl, (by repeat (first | (with_reducible exact hx) | (with_reducible refine Ex.plus ?_ _) | (with_reducible refine Ex.drew ?_) | (with_reducible refine Ex.alloc ?_ _) | (with_reducible refine Ex.upd1 ?_ (by first | assumption | omega | (simp; done) | (simp; omega))) | (with_reducible refine Ex.setCell ?_ (by first | assumption | omega | (simp; done) | (simp; omega)) _) | (with_reducible refine Ex.upd ?_ HBL.out)))⟩

end Go.Proofs.Ytlpipllhbobfbaa
