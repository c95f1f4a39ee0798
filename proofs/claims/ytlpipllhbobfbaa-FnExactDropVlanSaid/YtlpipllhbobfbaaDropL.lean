/- The walk of FnExactDropVlan. -/
import Derived.Test.YtlpipllhbobfbaaRows
import Derived.Test.YtlpipllhbobfbaaDrop
import Derived.Test.YtlpipllhbobfbaaFiltL
import Derived.Test.YtlpipllhbobfbaaHeld
namespace Go.Proofs.Ytlpipllhbobfbaa
open Go.RowKit
set_option linter.unusedVariables false


set_option maxHeartbeats 1000000 in
theorem markFilter_any (mac : Int) (pr : Bool) (v : Value) (xs : List Int) (bs : List Nat) (k : Int) (w : World) (ht : Rep.tree w xs [v] bs) (hf : ∀ b ∈ bs, ∀ o, w.frozen? ⟨b, o, none⟩ = false) (k0 : 0 ≤ k) (k1 : k + xs.length ≤ 4611686018427387904) :
    Calls Try.prog 48 #[.agg #[.int .i64 mac, .bool pr, v], .int .i64 k] w (Marked w (marks xs.length k) [v] bs (k + xs.length)) := by
  obtain ⟨a, cap, hv, m⟩ := Holds.slice ⟨bs, ht⟩
  simp only [List.cons.injEq, and_true] at hv
  subst hv
  clear m
  go_enter Try.func48, Try.ntmps48
  go_wp2_with fail
  (with_reducible refine (markIntS_any _ xs bs k _ (Rep.stable ht fun b hb => (Ex.block (by repeat (first | (with_reducible exact Ex.refl _) | (with_reducible apply Ex.drew) | (with_reducible apply Ex.plus_add) | (with_reducible apply Ex.plus_drew) | (with_reducible apply Ex.plus) | (with_reducible apply Ex.alloc) | (with_reducible refine Ex.upd1 ?_ (by first | (simp; done) | omega | (simp; omega))) | (with_reducible refine Ex.setCell ?_ (by first | (simp; done) | omega | (simp; omega)) _))) (Rep.lt ht b hb))) (fun b hb o => by rw [Ex.frozen (p := ⟨b, o, none⟩) (show Ex w _ from (by repeat (first | (with_reducible exact Ex.refl _) | (with_reducible apply Ex.drew) | (with_reducible apply Ex.plus_add) | (with_reducible apply Ex.plus_drew) | (with_reducible apply Ex.plus) | (with_reducible apply Ex.alloc) | (with_reducible refine Ex.upd1 ?_ (by first | (simp; done) | omega | (simp; omega))) | (with_reducible refine Ex.setCell ?_ (by first | (simp; done) | omega | (simp; omega)) _)))) (Rep.lt ht b hb)]; exact hf b hb o) k0 k1).mono ?_); rintro e w' ⟨f, g, rfl, hw, ht2, hf2⟩
  obtain ⟨f2, g2, hw2⟩ : ∃ f2 g2, w' = (w.upd bs f2).plus g2 := by
    rw [hw]
    refine World.as_upd bs ?_ ?_ ?_ ?_ ?_
    · rfl
    · rfl
    · rfl
    · simp; omega
    · intro k hk hn
      rw [show ∀ (w : World) (g : Gr), (w.plus g).heap = w.heap ++ g.o from fun _ _ => rfl, Array.getElem?_append_left (by simp; omega), World.block_upd _ _ _ hn]
      exact Ex.block (show Ex w _ from (by repeat (first | (with_reducible exact Ex.refl _) | (with_reducible apply Ex.drew) | (with_reducible apply Ex.plus_add) | (with_reducible apply Ex.plus_drew) | (with_reducible apply Ex.plus) | (with_reducible apply Ex.alloc) | (with_reducible refine Ex.upd1 ?_ (by first | (simp; done) | omega | (simp; omega))) | (with_reducible refine Ex.setCell ?_ (by first | (simp; done) | omega | (simp; omega)) _)))) hk
  have HW2 := hid hw2
  clear hw hw2
  go_wp2
  go_ret
  exact ⟨f2, _, rfl, HW2.out, ht2, hf2⟩

set_option maxHeartbeats 1000000 in
theorem heldFilter_any (mac : Int) (pr : Bool) (v : Value) (n : Nat) (k : Int) (w : World) (k1 : Holds w (marks n k) [v]) (h0 : 0 ≤ k) (h1 : k + n ≤ 4611686018427387904) :
    Calls Try.prog 49 #[.agg #[.int .i64 mac, .bool pr, v], .int .i64 k] w fun e w' => e = .returned (.int .i64 (k + n)) ∧ Ex w w' := by
  obtain ⟨a, cap, hv, m⟩ := k1.slice
  simp only [List.cons.injEq, and_true] at hv
  subst hv
  clear m
  go_enter Try.func49, Try.ntmps49
  go_wp2_with (go_at_call 33; (with_reducible refine (heldIntS_any _ n k _ (k1.ex (by repeat (first | (with_reducible exact Ex.refl _) | (with_reducible apply Ex.drew) | (with_reducible apply Ex.plus_add) | (with_reducible apply Ex.plus_drew) | (with_reducible apply Ex.plus) | (with_reducible apply Ex.alloc) | (with_reducible refine Ex.upd1 ?_ (by first | (simp; done) | omega | (simp; omega))) | (with_reducible refine Ex.setCell ?_ (by first | (simp; done) | omega | (simp; omega)) _)))) h0 h1).mono ?_); rintro e w' ⟨rfl, rfl⟩)
  go_ret
  exact ⟨rfl, (by repeat (first | (with_reducible exact Ex.refl _) | (with_reducible apply Ex.plus_add) | (with_reducible apply Ex.plus_drew) | (with_reducible apply Ex.plus) | (with_reducible apply Ex.alloc) | (with_reducible apply Ex.drew)))⟩

theorem dropRS_any (mac : Int) (pr : Bool) (v : Value) (xs : List Int) (n : Int) (w : World) (k1 : Holds w xs [v]) (hl : xs.length ≤ 1048576) {R : List Int} (hR : R = dropV mac xs n) {ok : Bool} (hok : ok = dropB mac xs n) :
    Calls Try.prog 46 #[.agg #[.int .i64 mac, .bool pr, v], .int .i64 n] w (RetFiltB w mac pr R ok) := hR ▸ hok ▸ dropVlanS_any mac pr v xs n w k1 hl

theorem dropR_any (mac : Int) (pr : Bool) (v : Value) (xs : List Int) (n : Int) (w : World) (k1 : Holds w xs [v]) (hl : xs.length ≤ 1048576) {R : List Int} (hR : R = dropV mac xs n) {ok : Bool} (hok : ok = dropB mac xs n) :
    Calls Try.prog 47 #[.agg #[.int .i64 mac, .bool pr, v], .int .i64 n] w (RetFiltB w mac pr R ok) := hR ▸ hok ▸ dropVlan_any mac pr v xs n w k1 hl

set_option maxRecDepth 100000 in
set_option maxHeartbeats 8000000 in
theorem walk_FnExactDropVlan (w : World) (aF : Array Value) (aFD : Int × Bool × List Int) (haF : Holds w aFD aF.toList) (aVlan : Int) (haVlan : i64ok aVlan) :
    Calls Try.prog 9 #[.agg aF, .int .i64 aVlan] w fun e w' => e = .returned (.bool true) ∧ Ex w w' := by
  obtain ⟨bs, hF⟩ := haF
  obtain ⟨mac, pr, xs⟩ := aFD
  obtain ⟨_, _, _, _, e1, _, ⟨rfl, _, hmac⟩, _, v3, _, b3, rfl, _, ⟨rfl, _⟩, hF⟩ := hF
  replace hF : Holds w xs v3 := ⟨_, hF⟩
  obtain ⟨a, cap, rfl, m1, m2, _⟩ := hF.ints
  unfold maxLen at m2
  obtain rfl : aF = #[.int .i64 mac, .bool pr, .slice a xs.length cap] := Array.toList_inj.1 e1
  clear e1
  by_cases hbig : 1048576 < xs.length
  case pos =>
    go_enter Try.func9, Try.ntmps9
    go_wp2_with (first
          | (go_at_call 34; (first | (with_reducible refine (szFilter_le _ _ _ xs _ _ (hF.ex (by repeat (first | (with_reducible exact Ex.refl _) | (with_reducible apply Ex.drew) | (with_reducible apply Ex.plus_add) | (with_reducible apply Ex.plus_drew) | (with_reducible apply Ex.plus) | (with_reducible apply Ex.alloc) | (with_reducible refine Ex.upd1 ?_ (by first | (simp; done) | omega | (simp; omega))) | (with_reducible refine Ex.setCell ?_ (by first | (simp; done) | omega | (simp; omega)) _)))) (by omega) (by omega)).mono ?_) | (with_reducible refine (szFilter_gt _ _ _ xs _ _ (hF.ex (by repeat (first | (with_reducible exact Ex.refl _) | (with_reducible apply Ex.drew) | (with_reducible apply Ex.plus_add) | (with_reducible apply Ex.plus_drew) | (with_reducible apply Ex.plus) | (with_reducible apply Ex.alloc) | (with_reducible refine Ex.upd1 ?_ (by first | (simp; done) | omega | (simp; omega))) | (with_reducible refine Ex.setCell ?_ (by first | (simp; done) | omega | (simp; omega)) _)))) (by omega) (by omega) (by omega)).mono ?_)); rintro e w' ⟨rfl, hx⟩; obtain ⟨g, rfl⟩ := hx))
    go_ret
    exact ⟨rfl, (by repeat (first | (with_reducible exact Ex.refl _) | (with_reducible apply Ex.plus_add) | (with_reducible apply Ex.plus_drew) | (with_reducible apply Ex.plus) | (with_reducible apply Ex.alloc) | (with_reducible apply Ex.drew)))⟩
  case neg =>
  obtain ⟨RES, hR⟩ : ∃ R, R = dropV mac xs aVlan := ⟨_, rfl⟩
  obtain ⟨OK, hK⟩ : ∃ R, R = dropB mac xs aVlan := ⟨_, rfl⟩
  have hlen : RES.length ≤ 1048576 := by
    rw [hR, dropV]; split
    · have := List.length_filter_le (fun x => x != aVlan) xs; omega
    · omega
  have HR := hid hR
  have HK := hid hK
  clear hR hK
  cases OK
  all_goals
    go_enter Try.func9, Try.ntmps9
    go_wp2_with (first
          | (go_at_call 34; (first | (with_reducible refine (szFilter_le _ _ _ xs _ _ (hF.ex (by repeat (first | (with_reducible exact Ex.refl _) | (with_reducible apply Ex.drew) | (with_reducible apply Ex.plus_add) | (with_reducible apply Ex.plus_drew) | (with_reducible apply Ex.plus) | (with_reducible apply Ex.alloc) | (with_reducible refine Ex.upd1 ?_ (by first | (simp; done) | omega | (simp; omega))) | (with_reducible refine Ex.setCell ?_ (by first | (simp; done) | omega | (simp; omega)) _)))) (by omega) (by omega)).mono ?_) | (with_reducible refine (szFilter_gt _ _ _ xs _ _ (hF.ex (by repeat (first | (with_reducible exact Ex.refl _) | (with_reducible apply Ex.drew) | (with_reducible apply Ex.plus_add) | (with_reducible apply Ex.plus_drew) | (with_reducible apply Ex.plus) | (with_reducible apply Ex.alloc) | (with_reducible refine Ex.upd1 ?_ (by first | (simp; done) | omega | (simp; omega))) | (with_reducible refine Ex.setCell ?_ (by first | (simp; done) | omega | (simp; omega)) _)))) (by omega) (by omega) (by omega)).mono ?_)); rintro e w' ⟨rfl, hx⟩; obtain ⟨g, rfl⟩ := hx))
    (with_reducible refine (toFilter_any _ _ _ xs _ (hF.ex (by repeat (first | (with_reducible exact Ex.refl _) | (with_reducible apply Ex.drew) | (with_reducible apply Ex.plus_add) | (with_reducible apply Ex.plus_drew) | (with_reducible apply Ex.plus) | (with_reducible apply Ex.alloc) | (with_reducible refine Ex.upd1 ?_ (by first | (simp; done) | omega | (simp; omega))) | (with_reducible refine Ex.setCell ?_ (by first | (simp; done) | omega | (simp; omega)) _)))) (by omega)).mono ?_); rintro e W1 ⟨a_t1, c_t1, rfl, ho, hx1⟩
    have hp : Ex w _ := Ex.trans (show Ex w _ from (by repeat (first | (with_reducible exact Ex.refl _) | (with_reducible apply Ex.drew) | (with_reducible apply Ex.plus_add) | (with_reducible apply Ex.plus_drew) | (with_reducible apply Ex.plus) | (with_reducible apply Ex.alloc) | (with_reducible refine Ex.upd1 ?_ (by first | (simp; done) | omega | (simp; omega))) | (with_reducible refine Ex.setCell ?_ (by first | (simp; done) | omega | (simp; omega)) _)))) hx1
    have sz1 : w.heap.size ≤ W1.heap.size := hp.size
    have RB := hid (show W1.heap[w.heap.size]? = some (.cells #[.int .i64 mac, .bool pr, .slice a xs.length cap] 50 (0, 0)) from hx1.row (by (repeat (first | (with_reducible refine row_plus ?_) | (with_reducible refine row_drew ?_) | (with_reducible exact row_allocN (by first | assumption | (simp; done) | (simp; omega))) | (with_reducible refine row_allocO ?_) | (with_reducible refine row_updN (by first | assumption | exact Ne.symm (by assumption) | (simp; omega)) ?_) | (with_reducible refine row_setO (by first | assumption | exact Ne.symm (by assumption) | (simp; omega)) ?_) | (with_reducible refine row_updO (by assumption) ?_))); try exact rfl))
    obtain ⟨bs_t1, o_t1⟩ := ho.inn
    replace o_t1 := o_t1.lower (lo' := w.heap.size + 1) (by first | (simp; done) | (simp; omega) | exact Ex.size (show Ex w _ from (by repeat (first | (with_reducible exact Ex.refl _) | (with_reducible apply Ex.drew) | (with_reducible apply Ex.plus_add) | (with_reducible apply Ex.plus_drew) | (with_reducible apply Ex.plus) | (with_reducible apply Ex.alloc) | (with_reducible refine Ex.upd1 ?_ (by first | (simp; done) | omega | (simp; omega))) | (with_reducible refine Ex.setCell ?_ (by first | (simp; done) | omega | (simp; omega)) _)))))
    have hx := hp
    have rbd0 : W1.cell? ⟨w.heap.size, 0, none⟩ = some (.int .i64 mac) := by rw [cell_row RB.out]; rfl
    have rbd1 : W1.cell? ⟨w.heap.size, 1, none⟩ = some (.bool pr) := by rw [cell_row RB.out]; rfl
    have rbd2 : W1.cell? ⟨w.heap.size, 2, none⟩ = some (.slice a xs.length cap) := by rw [cell_row RB.out]; rfl
    have rblt := row_lt RB.out
    have rbz : w.heap.size < W1.heap.size := row_lt RB.out
    clear hp hx1 ho
    go_wp2_with fail
    (with_reducible refine (dropRS_any _ _ _ xs _ _ (o_t1.holds.ex (by repeat (first | (with_reducible exact Ex.refl _) | (with_reducible apply Ex.drew) | (with_reducible apply Ex.plus_add) | (with_reducible apply Ex.plus_drew) | (with_reducible apply Ex.plus) | (with_reducible apply Ex.alloc) | (with_reducible refine Ex.upd1 ?_ (by first | (simp; done) | omega | (simp; omega))) | (with_reducible refine Ex.setCell ?_ (by first | (simp; done) | omega | (simp; omega)) _)))) (by omega) HR.out HK.out).mono ?_); rintro e W2 ⟨a_w0, c_w0, rfl, ho, hx1⟩
    have hp : Ex W1 _ := Ex.trans (show Ex W1 _ from (by repeat (first | (with_reducible exact Ex.refl _) | (with_reducible apply Ex.drew) | (with_reducible apply Ex.plus_add) | (with_reducible apply Ex.plus_drew) | (with_reducible apply Ex.plus) | (with_reducible apply Ex.alloc) | (with_reducible refine Ex.upd1 ?_ (by first | (simp; done) | omega | (simp; omega))) | (with_reducible refine Ex.setCell ?_ (by first | (simp; done) | omega | (simp; omega)) _)))) hx1
    have sz2 : W1.heap.size ≤ W2.heap.size := hp.size
    obtain ⟨bs_w0, o_w0⟩ := ho.inn
    replace o_w0 := o_w0.lower (lo' := W1.heap.size + 0) (by first | (simp; done) | (simp; omega) | exact Ex.size (show Ex W1 _ from (by repeat (first | (with_reducible exact Ex.refl _) | (with_reducible apply Ex.drew) | (with_reducible apply Ex.plus_add) | (with_reducible apply Ex.plus_drew) | (with_reducible apply Ex.plus) | (with_reducible apply Ex.alloc) | (with_reducible refine Ex.upd1 ?_ (by first | (simp; done) | omega | (simp; omega))) | (with_reducible refine Ex.setCell ?_ (by first | (simp; done) | omega | (simp; omega)) _)))))
    replace o_t1 := o_t1.ex hp
    clear rbd0 rbd1 rbd2 rblt
    replace hx := Ex.trans hx hp
    replace RB := hid (hp.row RB.out)
    have rbd0 : W2.cell? ⟨w.heap.size, 0, none⟩ = some (.int .i64 mac) := by rw [cell_row RB.out]; rfl
    have rbd1 : W2.cell? ⟨w.heap.size, 1, none⟩ = some (.bool pr) := by rw [cell_row RB.out]; rfl
    have rbd2 : W2.cell? ⟨w.heap.size, 2, none⟩ = some (.slice a xs.length cap) := by rw [cell_row RB.out]; rfl
    have rblt := row_lt RB.out
    clear hp hx1 ho
    go_wp2_with fail
    (with_reducible refine (toFilter_any _ _ _ xs _ (hF.ex (Ex.trans hx (by repeat (first | (with_reducible exact Ex.refl _) | (with_reducible apply Ex.drew) | (with_reducible apply Ex.plus_add) | (with_reducible apply Ex.plus_drew) | (with_reducible apply Ex.plus) | (with_reducible apply Ex.alloc) | (with_reducible refine Ex.upd1 ?_ (by first | (simp; done) | omega | (simp; omega))) | (with_reducible refine Ex.setCell ?_ (by first | (simp; done) | omega | (simp; omega)) _))))) (by omega)).mono ?_); rintro e W3 ⟨a_x0, c_x0, rfl, ho, hx1⟩
    have hp : Ex W2 _ := Ex.trans (show Ex W2 _ from (by repeat (first | (with_reducible exact Ex.refl _) | (with_reducible apply Ex.drew) | (with_reducible apply Ex.plus_add) | (with_reducible apply Ex.plus_drew) | (with_reducible apply Ex.plus) | (with_reducible apply Ex.alloc) | (with_reducible refine Ex.upd1 ?_ (by first | (simp; done) | omega | (simp; omega))) | (with_reducible refine Ex.setCell ?_ (by first | (simp; done) | omega | (simp; omega)) _)))) hx1
    have sz3 : W2.heap.size ≤ W3.heap.size := hp.size
    have RW := hid (show W3.heap[W2.heap.size]? = some (.cells #[.int .i64 mac, .bool pr, .slice a_w0 RES.length c_w0] 58 (0, 0)) from hx1.row (by (repeat (first | (with_reducible refine row_plus ?_) | (with_reducible refine row_drew ?_) | (with_reducible exact row_allocN (by first | assumption | (simp; done) | (simp; omega))) | (with_reducible refine row_allocO ?_) | (with_reducible refine row_updN (by first | assumption | exact Ne.symm (by assumption) | (simp; omega)) ?_) | (with_reducible refine row_setO (by first | assumption | exact Ne.symm (by assumption) | (simp; omega)) ?_) | (with_reducible refine row_updO (by assumption) ?_))); try exact rfl))
    obtain ⟨bs_x0, o_x0⟩ := ho.inn
    replace o_x0 := o_x0.lower (lo' := W2.heap.size + 1) (by first | (simp; done) | (simp; omega) | exact Ex.size (show Ex W2 _ from (by repeat (first | (with_reducible exact Ex.refl _) | (with_reducible apply Ex.drew) | (with_reducible apply Ex.plus_add) | (with_reducible apply Ex.plus_drew) | (with_reducible apply Ex.plus) | (with_reducible apply Ex.alloc) | (with_reducible refine Ex.upd1 ?_ (by first | (simp; done) | omega | (simp; omega))) | (with_reducible refine Ex.setCell ?_ (by first | (simp; done) | omega | (simp; omega)) _)))))
    replace o_t1 := o_t1.ex hp
    replace o_w0 := o_w0.ex hp
    clear rbd0 rbd1 rbd2 rblt
    replace hx := Ex.trans hx hp
    replace RB := hid (hp.row RB.out)
    have rbd0 : W3.cell? ⟨w.heap.size, 0, none⟩ = some (.int .i64 mac) := by rw [cell_row RB.out]; rfl
    have rbd1 : W3.cell? ⟨w.heap.size, 1, none⟩ = some (.bool pr) := by rw [cell_row RB.out]; rfl
    have rbd2 : W3.cell? ⟨w.heap.size, 2, none⟩ = some (.slice a xs.length cap) := by rw [cell_row RB.out]; rfl
    have rblt := row_lt RB.out
    have rwd0 : W3.cell? ⟨W2.heap.size, 0, none⟩ = some (.int .i64 mac) := by rw [cell_row RW.out]; rfl
    have rwd1 : W3.cell? ⟨W2.heap.size, 1, none⟩ = some (.bool pr) := by rw [cell_row RW.out]; rfl
    have rwd2 : W3.cell? ⟨W2.heap.size, 2, none⟩ = some (.slice a_w0 RES.length c_w0) := by rw [cell_row RW.out]; rfl
    have rwlt := row_lt RW.out
    have rwz : W2.heap.size < W3.heap.size := row_lt RW.out
    clear hp hx1 ho
    go_wp2_with fail
    (with_reducible refine (dropR_any _ _ _ xs _ _ (o_x0.holds.ex (by repeat (first | (with_reducible exact Ex.refl _) | (with_reducible apply Ex.drew) | (with_reducible apply Ex.plus_add) | (with_reducible apply Ex.plus_drew) | (with_reducible apply Ex.plus) | (with_reducible apply Ex.alloc) | (with_reducible refine Ex.upd1 ?_ (by first | (simp; done) | omega | (simp; omega))) | (with_reducible refine Ex.setCell ?_ (by first | (simp; done) | omega | (simp; omega)) _)))) (by omega) HR.out HK.out).mono ?_); rintro e W4 ⟨a_g0, c_g0, rfl, ho, hx1⟩
    have hp : Ex W3 _ := Ex.trans (show Ex W3 _ from (by repeat (first | (with_reducible exact Ex.refl _) | (with_reducible apply Ex.drew) | (with_reducible apply Ex.plus_add) | (with_reducible apply Ex.plus_drew) | (with_reducible apply Ex.plus) | (with_reducible apply Ex.alloc) | (with_reducible refine Ex.upd1 ?_ (by first | (simp; done) | omega | (simp; omega))) | (with_reducible refine Ex.setCell ?_ (by first | (simp; done) | omega | (simp; omega)) _)))) hx1
    have sz4 : W3.heap.size ≤ W4.heap.size := hp.size
    have RX := hid (show W4.heap[W3.heap.size]? = some (.cells #[.int .i64 mac, .bool pr, .slice a_x0 xs.length c_x0] 58 (0, 0)) from hx1.row (by (repeat (first | (with_reducible refine row_plus ?_) | (with_reducible refine row_drew ?_) | (with_reducible exact row_allocN (by first | assumption | (simp; done) | (simp; omega))) | (with_reducible refine row_allocO ?_) | (with_reducible refine row_updN (by first | assumption | exact Ne.symm (by assumption) | (simp; omega)) ?_) | (with_reducible refine row_setO (by first | assumption | exact Ne.symm (by assumption) | (simp; omega)) ?_) | (with_reducible refine row_updO (by assumption) ?_))); try exact rfl))
    obtain ⟨bs_g0, o_g0⟩ := ho.inn
    replace o_g0 := o_g0.lower (lo' := W3.heap.size + 1) (by first | (simp; done) | (simp; omega) | exact Ex.size (show Ex W3 _ from (by repeat (first | (with_reducible exact Ex.refl _) | (with_reducible apply Ex.drew) | (with_reducible apply Ex.plus_add) | (with_reducible apply Ex.plus_drew) | (with_reducible apply Ex.plus) | (with_reducible apply Ex.alloc) | (with_reducible refine Ex.upd1 ?_ (by first | (simp; done) | omega | (simp; omega))) | (with_reducible refine Ex.setCell ?_ (by first | (simp; done) | omega | (simp; omega)) _)))))
    replace o_t1 := o_t1.ex hp
    replace o_w0 := o_w0.ex hp
    replace o_x0 := o_x0.ex hp
    clear rbd0 rbd1 rbd2 rblt rwd0 rwd1 rwd2 rwlt
    replace hx := Ex.trans hx hp
    replace RB := hid (hp.row RB.out)
    have rbd0 : W4.cell? ⟨w.heap.size, 0, none⟩ = some (.int .i64 mac) := by rw [cell_row RB.out]; rfl
    have rbd1 : W4.cell? ⟨w.heap.size, 1, none⟩ = some (.bool pr) := by rw [cell_row RB.out]; rfl
    have rbd2 : W4.cell? ⟨w.heap.size, 2, none⟩ = some (.slice a xs.length cap) := by rw [cell_row RB.out]; rfl
    have rblt := row_lt RB.out
    replace RW := hid (hp.row RW.out)
    have rwd0 : W4.cell? ⟨W2.heap.size, 0, none⟩ = some (.int .i64 mac) := by rw [cell_row RW.out]; rfl
    have rwd1 : W4.cell? ⟨W2.heap.size, 1, none⟩ = some (.bool pr) := by rw [cell_row RW.out]; rfl
    have rwd2 : W4.cell? ⟨W2.heap.size, 2, none⟩ = some (.slice a_w0 RES.length c_w0) := by rw [cell_row RW.out]; rfl
    have rwlt := row_lt RW.out
    have rxd0 : W4.cell? ⟨W3.heap.size, 0, none⟩ = some (.int .i64 mac) := by rw [cell_row RX.out]; rfl
    have rxd1 : W4.cell? ⟨W3.heap.size, 1, none⟩ = some (.bool pr) := by rw [cell_row RX.out]; rfl
    have rxd2 : W4.cell? ⟨W3.heap.size, 2, none⟩ = some (.slice a_x0 xs.length c_x0) := by rw [cell_row RX.out]; rfl
    have rxlt := row_lt RX.out
    have rxz : W3.heap.size < W4.heap.size := row_lt RX.out
    clear hp hx1 ho
    go_wp2_with (first
          | (go_at_call 40; (first | (with_reducible refine (eqFilter_same _ _ _ _ RES _ (o_g0.holds.ex (by repeat (first | (with_reducible exact Ex.refl _) | (with_reducible apply Ex.drew) | (with_reducible apply Ex.plus_add) | (with_reducible apply Ex.plus_drew) | (with_reducible apply Ex.plus) | (with_reducible apply Ex.alloc) | (with_reducible refine Ex.upd1 ?_ (by first | (simp; done) | omega | (simp; omega))) | (with_reducible refine Ex.setCell ?_ (by first | (simp; done) | omega | (simp; omega)) _)))) (o_w0.holds.ex (by repeat (first | (with_reducible exact Ex.refl _) | (with_reducible apply Ex.drew) | (with_reducible apply Ex.plus_add) | (with_reducible apply Ex.plus_drew) | (with_reducible apply Ex.plus) | (with_reducible apply Ex.alloc) | (with_reducible refine Ex.upd1 ?_ (by first | (simp; done) | omega | (simp; omega))) | (with_reducible refine Ex.setCell ?_ (by first | (simp; done) | omega | (simp; omega)) _))))).mono ?_)); rintro e w' ⟨rfl, hx⟩; obtain ⟨g, rfl⟩ := hx))
    refine wp_region_plan (fun w' => ∃ g, w' = World.plus _ g) (.early 0 (.forced 1 1 (.forced 2 1 (.forced 3 2 (.forced 4 2 .done))))) (⟨_, World.drew_is_plus _⟩) (by kernel_rfl) (by kernel_rfl) ?_
    first | refine wpPlan_skipE rfl rfl ?_ | (refine wpPlan_early rfl rfl ?_; intro K hK; go_big_quiet_op; go_big_quiet_on)
    refine wpPlan_forced ?_
    first | refine wpOne_skip rfl rfl ?_ | (refine wpOne_1 rfl rfl ?_; intro K hK; go_simp; (try (first | (go_at_call 37; (with_reducible refine (toFilter_any _ _ _ xs _ (hF.ex (Ex.trans hx (by repeat (first | (with_reducible exact Ex.refl _) | (with_reducible apply Ex.drew) | (with_reducible apply Ex.plus_add) | (with_reducible apply Ex.plus_drew) | (with_reducible apply Ex.plus) | (with_reducible apply Ex.alloc) | (with_reducible refine Ex.upd1 ?_ (by first | (simp; done) | omega | (simp; omega))) | (with_reducible refine Ex.setCell ?_ (by first | (simp; done) | omega | (simp; omega)) _))))) (by omega)).mono ?_); rintro e w' ⟨a_t2, c_t2, rfl, ho2, hx2⟩; obtain ⟨gt2, rfl⟩ := hx2; (try rw [World.plus_plus] at ho2)) | (go_at_call 40; (first | (with_reducible refine (eqFilter_same _ _ _ _ xs _ (o_x0.holds.ex (by repeat (first | (with_reducible exact Ex.refl _) | (with_reducible apply Ex.drew) | (with_reducible apply Ex.plus_add) | (with_reducible apply Ex.plus_drew) | (with_reducible apply Ex.plus) | (with_reducible apply Ex.alloc) | (with_reducible refine Ex.upd1 ?_ (by first | (simp; done) | omega | (simp; omega))) | (with_reducible refine Ex.setCell ?_ (by first | (simp; done) | omega | (simp; omega)) _)))) (ho2.holds.ex (by repeat (first | (with_reducible exact Ex.refl _) | (with_reducible apply Ex.drew) | (with_reducible apply Ex.plus_add) | (with_reducible apply Ex.plus_drew) | (with_reducible apply Ex.plus) | (with_reducible apply Ex.alloc) | (with_reducible refine Ex.upd1 ?_ (by first | (simp; done) | omega | (simp; omega))) | (with_reducible refine Ex.setCell ?_ (by first | (simp; done) | omega | (simp; omega)) _))))).mono ?_)); rintro e w' ⟨rfl, hx⟩; obtain ⟨g, rfl⟩ := hx))); (try go_simp); refine hK _ _ ?_ ?_; (focus (exact (show Ex _ _ from (by repeat (first | (with_reducible exact Ex.refl _) | (with_reducible apply Ex.drew) | (with_reducible apply Ex.plus_add) | (with_reducible apply Ex.plus_drew) | (with_reducible apply Ex.plus) | (with_reducible apply Ex.alloc) | (with_reducible refine Ex.upd1 ?_ (by first | (simp; done) | omega | (simp; omega))) | (with_reducible refine Ex.setCell ?_ (by first | (simp; done) | omega | (simp; omega)) _)))))); clear hK K)
    refine wpPlan_forced ?_
    first | refine wpOne_skip rfl rfl ?_ | (refine wpOne_1 rfl rfl ?_; intro K hK; go_simp; (try (first | (go_at_call 37; (with_reducible refine (toFilter_any _ _ _ xs _ (hF.ex (Ex.trans hx (by repeat (first | (with_reducible exact Ex.refl _) | (with_reducible apply Ex.drew) | (with_reducible apply Ex.plus_add) | (with_reducible apply Ex.plus_drew) | (with_reducible apply Ex.plus) | (with_reducible apply Ex.alloc) | (with_reducible refine Ex.upd1 ?_ (by first | (simp; done) | omega | (simp; omega))) | (with_reducible refine Ex.setCell ?_ (by first | (simp; done) | omega | (simp; omega)) _))))) (by omega)).mono ?_); rintro e w' ⟨a_t2, c_t2, rfl, ho2, hx2⟩; obtain ⟨gt2, rfl⟩ := hx2; (try rw [World.plus_plus] at ho2)) | (go_at_call 40; (first | (with_reducible refine (eqFilter_same _ _ _ _ xs _ (o_x0.holds.ex (by repeat (first | (with_reducible exact Ex.refl _) | (with_reducible apply Ex.drew) | (with_reducible apply Ex.plus_add) | (with_reducible apply Ex.plus_drew) | (with_reducible apply Ex.plus) | (with_reducible apply Ex.alloc) | (with_reducible refine Ex.upd1 ?_ (by first | (simp; done) | omega | (simp; omega))) | (with_reducible refine Ex.setCell ?_ (by first | (simp; done) | omega | (simp; omega)) _)))) (ho2.holds.ex (by repeat (first | (with_reducible exact Ex.refl _) | (with_reducible apply Ex.drew) | (with_reducible apply Ex.plus_add) | (with_reducible apply Ex.plus_drew) | (with_reducible apply Ex.plus) | (with_reducible apply Ex.alloc) | (with_reducible refine Ex.upd1 ?_ (by first | (simp; done) | omega | (simp; omega))) | (with_reducible refine Ex.setCell ?_ (by first | (simp; done) | omega | (simp; omega)) _))))).mono ?_)); rintro e w' ⟨rfl, hx⟩; obtain ⟨g, rfl⟩ := hx))); (try go_simp); refine hK _ _ ?_ ?_; (focus (exact (show Ex _ _ from (by repeat (first | (with_reducible exact Ex.refl _) | (with_reducible apply Ex.drew) | (with_reducible apply Ex.plus_add) | (with_reducible apply Ex.plus_drew) | (with_reducible apply Ex.plus) | (with_reducible apply Ex.alloc) | (with_reducible refine Ex.upd1 ?_ (by first | (simp; done) | omega | (simp; omega))) | (with_reducible refine Ex.setCell ?_ (by first | (simp; done) | omega | (simp; omega)) _)))))); clear hK K)
    refine wpPlan_forced ?_
    first | refine wpOne_skip rfl rfl ?_ | (refine wpOne_2 rfl rfl ?_; intro K hK; go_simp; (try (first | (go_at_call 37; (with_reducible refine (toFilter_any _ _ _ xs _ (hF.ex (Ex.trans hx (by repeat (first | (with_reducible exact Ex.refl _) | (with_reducible apply Ex.drew) | (with_reducible apply Ex.plus_add) | (with_reducible apply Ex.plus_drew) | (with_reducible apply Ex.plus) | (with_reducible apply Ex.alloc) | (with_reducible refine Ex.upd1 ?_ (by first | (simp; done) | omega | (simp; omega))) | (with_reducible refine Ex.setCell ?_ (by first | (simp; done) | omega | (simp; omega)) _))))) (by omega)).mono ?_); rintro e w' ⟨a_t2, c_t2, rfl, ho2, hx2⟩; obtain ⟨gt2, rfl⟩ := hx2; (try rw [World.plus_plus] at ho2)) | (go_at_call 40; (first | (with_reducible refine (eqFilter_same _ _ _ _ xs _ (o_x0.holds.ex (by repeat (first | (with_reducible exact Ex.refl _) | (with_reducible apply Ex.drew) | (with_reducible apply Ex.plus_add) | (with_reducible apply Ex.plus_drew) | (with_reducible apply Ex.plus) | (with_reducible apply Ex.alloc) | (with_reducible refine Ex.upd1 ?_ (by first | (simp; done) | omega | (simp; omega))) | (with_reducible refine Ex.setCell ?_ (by first | (simp; done) | omega | (simp; omega)) _)))) (ho2.holds.ex (by repeat (first | (with_reducible exact Ex.refl _) | (with_reducible apply Ex.drew) | (with_reducible apply Ex.plus_add) | (with_reducible apply Ex.plus_drew) | (with_reducible apply Ex.plus) | (with_reducible apply Ex.alloc) | (with_reducible refine Ex.upd1 ?_ (by first | (simp; done) | omega | (simp; omega))) | (with_reducible refine Ex.setCell ?_ (by first | (simp; done) | omega | (simp; omega)) _))))).mono ?_)); rintro e w' ⟨rfl, hx⟩; obtain ⟨g, rfl⟩ := hx))); (try go_simp); refine hK _ _ ?_; clear hK K)
    refine wpPlan_forced ?_
    first | refine wpOne_skip rfl rfl ?_ | (refine wpOne_2 rfl rfl ?_; intro K hK; go_simp; (try (first | (go_at_call 37; (with_reducible refine (toFilter_any _ _ _ xs _ (hF.ex (Ex.trans hx (by repeat (first | (with_reducible exact Ex.refl _) | (with_reducible apply Ex.drew) | (with_reducible apply Ex.plus_add) | (with_reducible apply Ex.plus_drew) | (with_reducible apply Ex.plus) | (with_reducible apply Ex.alloc) | (with_reducible refine Ex.upd1 ?_ (by first | (simp; done) | omega | (simp; omega))) | (with_reducible refine Ex.setCell ?_ (by first | (simp; done) | omega | (simp; omega)) _))))) (by omega)).mono ?_); rintro e w' ⟨a_t2, c_t2, rfl, ho2, hx2⟩; obtain ⟨gt2, rfl⟩ := hx2; (try rw [World.plus_plus] at ho2)) | (go_at_call 40; (first | (with_reducible refine (eqFilter_same _ _ _ _ xs _ (o_x0.holds.ex (by repeat (first | (with_reducible exact Ex.refl _) | (with_reducible apply Ex.drew) | (with_reducible apply Ex.plus_add) | (with_reducible apply Ex.plus_drew) | (with_reducible apply Ex.plus) | (with_reducible apply Ex.alloc) | (with_reducible refine Ex.upd1 ?_ (by first | (simp; done) | omega | (simp; omega))) | (with_reducible refine Ex.setCell ?_ (by first | (simp; done) | omega | (simp; omega)) _)))) (ho2.holds.ex (by repeat (first | (with_reducible exact Ex.refl _) | (with_reducible apply Ex.drew) | (with_reducible apply Ex.plus_add) | (with_reducible apply Ex.plus_drew) | (with_reducible apply Ex.plus) | (with_reducible apply Ex.alloc) | (with_reducible refine Ex.upd1 ?_ (by first | (simp; done) | omega | (simp; omega))) | (with_reducible refine Ex.setCell ?_ (by first | (simp; done) | omega | (simp; omega)) _))))).mono ?_)); rintro e w' ⟨rfl, hx⟩; obtain ⟨g, rfl⟩ := hx))); (try go_simp); refine hK _ _ ?_; clear hK K)
    refine wpPlan_done ?_
    go_wp2_with fail
    (with_reducible refine (markFilter_any _ _ _ xs _ 1 _ (o_x0.ex (by repeat (first | (with_reducible exact Ex.refl _) | (with_reducible apply Ex.drew) | (with_reducible apply Ex.plus_add) | (with_reducible apply Ex.plus_drew) | (with_reducible apply Ex.plus) | (with_reducible apply Ex.alloc) | (with_reducible refine Ex.upd1 ?_ (by first | (simp; done) | omega | (simp; omega))) | (with_reducible refine Ex.setCell ?_ (by first | (simp; done) | omega | (simp; omega)) _)))).tree (o_x0.ex (by repeat (first | (with_reducible exact Ex.refl _) | (with_reducible apply Ex.drew) | (with_reducible apply Ex.plus_add) | (with_reducible apply Ex.plus_drew) | (with_reducible apply Ex.plus) | (with_reducible apply Ex.alloc) | (with_reducible refine Ex.upd1 ?_ (by first | (simp; done) | omega | (simp; omega))) | (with_reducible refine Ex.setCell ?_ (by first | (simp; done) | omega | (simp; omega)) _)))).fz (by omega) (by omega)).mono ?_); rintro e W5 ⟨mf, mg, rfl, hw, ht, hf⟩
    have rng := o_x0.rng
    have sz5 : W4.heap.size ≤ W5.heap.size := size_marked (by repeat (first | (with_reducible exact Ex.refl _) | (with_reducible apply Ex.drew) | (with_reducible apply Ex.plus_add) | (with_reducible apply Ex.plus_drew) | (with_reducible apply Ex.plus) | (with_reducible apply Ex.alloc) | (with_reducible refine Ex.upd1 ?_ (by first | (simp; done) | omega | (simp; omega))) | (with_reducible refine Ex.setCell ?_ (by first | (simp; done) | omega | (simp; omega)) _))) hw
    replace o_t1 := o_t1.marked (by repeat (first | (with_reducible exact Ex.refl _) | (with_reducible apply Ex.drew) | (with_reducible apply Ex.plus_add) | (with_reducible apply Ex.plus_drew) | (with_reducible apply Ex.plus) | (with_reducible apply Ex.alloc) | (with_reducible refine Ex.upd1 ?_ (by first | (simp; done) | omega | (simp; omega))) | (with_reducible refine Ex.setCell ?_ (by first | (simp; done) | omega | (simp; omega)) _))) hw (fun c hc => by have := rng c hc; omega)
    replace o_w0 := o_w0.marked (by repeat (first | (with_reducible exact Ex.refl _) | (with_reducible apply Ex.drew) | (with_reducible apply Ex.plus_add) | (with_reducible apply Ex.plus_drew) | (with_reducible apply Ex.plus) | (with_reducible apply Ex.alloc) | (with_reducible refine Ex.upd1 ?_ (by first | (simp; done) | omega | (simp; omega))) | (with_reducible refine Ex.setCell ?_ (by first | (simp; done) | omega | (simp; omega)) _))) hw (fun c hc => by have := rng c hc; omega)
    replace o_g0 := o_g0.marked (by repeat (first | (with_reducible exact Ex.refl _) | (with_reducible apply Ex.drew) | (with_reducible apply Ex.plus_add) | (with_reducible apply Ex.plus_drew) | (with_reducible apply Ex.plus) | (with_reducible apply Ex.alloc) | (with_reducible refine Ex.upd1 ?_ (by first | (simp; done) | omega | (simp; omega))) | (with_reducible refine Ex.setCell ?_ (by first | (simp; done) | omega | (simp; omega)) _))) hw (fun c hc => by have := rng c hc; omega)
    replace o_x0 := OwnsIn.mk' ht o_x0.nd rng hf
    clear rbd0 rbd1 rbd2 rblt rwd0 rwd1 rwd2 rwlt rxd0 rxd1 rxd2 rxlt
    replace hx := hx.marked (by repeat (first | (with_reducible exact Ex.refl _) | (with_reducible apply Ex.drew) | (with_reducible apply Ex.plus_add) | (with_reducible apply Ex.plus_drew) | (with_reducible apply Ex.plus) | (with_reducible apply Ex.alloc) | (with_reducible refine Ex.upd1 ?_ (by first | (simp; done) | omega | (simp; omega))) | (with_reducible refine Ex.setCell ?_ (by first | (simp; done) | omega | (simp; omega)) _))) hw (fun c hc => by have := rng c hc; omega)
    replace RB := hid (row_marked RB.out (by repeat (first | (with_reducible exact Ex.refl _) | (with_reducible apply Ex.drew) | (with_reducible apply Ex.plus_add) | (with_reducible apply Ex.plus_drew) | (with_reducible apply Ex.plus) | (with_reducible apply Ex.alloc) | (with_reducible refine Ex.upd1 ?_ (by first | (simp; done) | omega | (simp; omega))) | (with_reducible refine Ex.setCell ?_ (by first | (simp; done) | omega | (simp; omega)) _))) hw (fun h => by have := rng _ h; omega))
    have rbd0 : W5.cell? ⟨w.heap.size, 0, none⟩ = some (.int .i64 mac) := by rw [cell_row RB.out]; rfl
    have rbd1 : W5.cell? ⟨w.heap.size, 1, none⟩ = some (.bool pr) := by rw [cell_row RB.out]; rfl
    have rbd2 : W5.cell? ⟨w.heap.size, 2, none⟩ = some (.slice a xs.length cap) := by rw [cell_row RB.out]; rfl
    have rblt := row_lt RB.out
    replace RW := hid (row_marked RW.out (by repeat (first | (with_reducible exact Ex.refl _) | (with_reducible apply Ex.drew) | (with_reducible apply Ex.plus_add) | (with_reducible apply Ex.plus_drew) | (with_reducible apply Ex.plus) | (with_reducible apply Ex.alloc) | (with_reducible refine Ex.upd1 ?_ (by first | (simp; done) | omega | (simp; omega))) | (with_reducible refine Ex.setCell ?_ (by first | (simp; done) | omega | (simp; omega)) _))) hw (fun h => by have := rng _ h; omega))
    have rwd0 : W5.cell? ⟨W2.heap.size, 0, none⟩ = some (.int .i64 mac) := by rw [cell_row RW.out]; rfl
    have rwd1 : W5.cell? ⟨W2.heap.size, 1, none⟩ = some (.bool pr) := by rw [cell_row RW.out]; rfl
    have rwd2 : W5.cell? ⟨W2.heap.size, 2, none⟩ = some (.slice a_w0 RES.length c_w0) := by rw [cell_row RW.out]; rfl
    have rwlt := row_lt RW.out
    replace RX := hid (row_marked RX.out (by repeat (first | (with_reducible exact Ex.refl _) | (with_reducible apply Ex.drew) | (with_reducible apply Ex.plus_add) | (with_reducible apply Ex.plus_drew) | (with_reducible apply Ex.plus) | (with_reducible apply Ex.alloc) | (with_reducible refine Ex.upd1 ?_ (by first | (simp; done) | omega | (simp; omega))) | (with_reducible refine Ex.setCell ?_ (by first | (simp; done) | omega | (simp; omega)) _))) hw (fun h => by have := rng _ h; omega))
    have rxd0 : W5.cell? ⟨W3.heap.size, 0, none⟩ = some (.int .i64 mac) := by rw [cell_row RX.out]; rfl
    have rxd1 : W5.cell? ⟨W3.heap.size, 1, none⟩ = some (.bool pr) := by rw [cell_row RX.out]; rfl
    have rxd2 : W5.cell? ⟨W3.heap.size, 2, none⟩ = some (.slice a_x0 xs.length c_x0) := by rw [cell_row RX.out]; rfl
    have rxlt := row_lt RX.out
    have RG := hid (show W5.heap[W4.heap.size]? = some (.cells #[.int .i64 mac, .bool pr, .slice a_g0 RES.length c_g0] 58 (0, 0)) from row_marked (by (repeat (first | (with_reducible refine row_plus ?_) | (with_reducible refine row_drew ?_) | (with_reducible exact row_allocN (by first | assumption | (simp; done) | (simp; omega))) | (with_reducible refine row_allocO ?_) | (with_reducible refine row_updN (by first | assumption | exact Ne.symm (by assumption) | (simp; omega)) ?_) | (with_reducible refine row_setO (by first | assumption | exact Ne.symm (by assumption) | (simp; omega)) ?_) | (with_reducible refine row_updO (by assumption) ?_))); try exact rfl) (Ex.refl _) hw (fun h => by have := rng _ h; omega))
    have rgd0 : W5.cell? ⟨W4.heap.size, 0, none⟩ = some (.int .i64 mac) := by rw [cell_row RG.out]; rfl
    have rgd1 : W5.cell? ⟨W4.heap.size, 1, none⟩ = some (.bool pr) := by rw [cell_row RG.out]; rfl
    have rgd2 : W5.cell? ⟨W4.heap.size, 2, none⟩ = some (.slice a_g0 RES.length c_g0) := by rw [cell_row RG.out]; rfl
    have rglt := row_lt RG.out
    have rgz : W4.heap.size < W5.heap.size := row_lt RG.out
    clear rng hw ht hf
    go_wp2_with (first
          | (go_at_call 40; (first | (with_reducible refine (eqFilter_same _ _ _ _ RES _ (o_g0.holds.ex (by repeat (first | (with_reducible exact Ex.refl _) | (with_reducible apply Ex.drew) | (with_reducible apply Ex.plus_add) | (with_reducible apply Ex.plus_drew) | (with_reducible apply Ex.plus) | (with_reducible apply Ex.alloc) | (with_reducible refine Ex.upd1 ?_ (by first | (simp; done) | omega | (simp; omega))) | (with_reducible refine Ex.setCell ?_ (by first | (simp; done) | omega | (simp; omega)) _)))) (o_w0.holds.ex (by repeat (first | (with_reducible exact Ex.refl _) | (with_reducible apply Ex.drew) | (with_reducible apply Ex.plus_add) | (with_reducible apply Ex.plus_drew) | (with_reducible apply Ex.plus) | (with_reducible apply Ex.alloc) | (with_reducible refine Ex.upd1 ?_ (by first | (simp; done) | omega | (simp; omega))) | (with_reducible refine Ex.setCell ?_ (by first | (simp; done) | omega | (simp; omega)) _))))).mono ?_)); rintro e w' ⟨rfl, hx⟩; obtain ⟨g, rfl⟩ := hx))
    (with_reducible refine (markFilter_any _ _ _ RES _ 1 _ (o_g0.ex (by repeat (first | (with_reducible exact Ex.refl _) | (with_reducible apply Ex.drew) | (with_reducible apply Ex.plus_add) | (with_reducible apply Ex.plus_drew) | (with_reducible apply Ex.plus) | (with_reducible apply Ex.alloc) | (with_reducible refine Ex.upd1 ?_ (by first | (simp; done) | omega | (simp; omega))) | (with_reducible refine Ex.setCell ?_ (by first | (simp; done) | omega | (simp; omega)) _)))).tree (o_g0.ex (by repeat (first | (with_reducible exact Ex.refl _) | (with_reducible apply Ex.drew) | (with_reducible apply Ex.plus_add) | (with_reducible apply Ex.plus_drew) | (with_reducible apply Ex.plus) | (with_reducible apply Ex.alloc) | (with_reducible refine Ex.upd1 ?_ (by first | (simp; done) | omega | (simp; omega))) | (with_reducible refine Ex.setCell ?_ (by first | (simp; done) | omega | (simp; omega)) _)))).fz (by omega) (by omega)).mono ?_); rintro e W6 ⟨mf, mg, rfl, hw, ht, hf⟩
    have rng := o_g0.rng
    have sz6 : W5.heap.size ≤ W6.heap.size := size_marked (by repeat (first | (with_reducible exact Ex.refl _) | (with_reducible apply Ex.drew) | (with_reducible apply Ex.plus_add) | (with_reducible apply Ex.plus_drew) | (with_reducible apply Ex.plus) | (with_reducible apply Ex.alloc) | (with_reducible refine Ex.upd1 ?_ (by first | (simp; done) | omega | (simp; omega))) | (with_reducible refine Ex.setCell ?_ (by first | (simp; done) | omega | (simp; omega)) _))) hw
    replace o_t1 := o_t1.marked (by repeat (first | (with_reducible exact Ex.refl _) | (with_reducible apply Ex.drew) | (with_reducible apply Ex.plus_add) | (with_reducible apply Ex.plus_drew) | (with_reducible apply Ex.plus) | (with_reducible apply Ex.alloc) | (with_reducible refine Ex.upd1 ?_ (by first | (simp; done) | omega | (simp; omega))) | (with_reducible refine Ex.setCell ?_ (by first | (simp; done) | omega | (simp; omega)) _))) hw (fun c hc => by have := rng c hc; omega)
    replace o_w0 := o_w0.marked (by repeat (first | (with_reducible exact Ex.refl _) | (with_reducible apply Ex.drew) | (with_reducible apply Ex.plus_add) | (with_reducible apply Ex.plus_drew) | (with_reducible apply Ex.plus) | (with_reducible apply Ex.alloc) | (with_reducible refine Ex.upd1 ?_ (by first | (simp; done) | omega | (simp; omega))) | (with_reducible refine Ex.setCell ?_ (by first | (simp; done) | omega | (simp; omega)) _))) hw (fun c hc => by have := rng c hc; omega)
    replace o_x0 := o_x0.marked (by repeat (first | (with_reducible exact Ex.refl _) | (with_reducible apply Ex.drew) | (with_reducible apply Ex.plus_add) | (with_reducible apply Ex.plus_drew) | (with_reducible apply Ex.plus) | (with_reducible apply Ex.alloc) | (with_reducible refine Ex.upd1 ?_ (by first | (simp; done) | omega | (simp; omega))) | (with_reducible refine Ex.setCell ?_ (by first | (simp; done) | omega | (simp; omega)) _))) hw (fun c hc => by have := rng c hc; omega)
    replace o_g0 := OwnsIn.mk' ht o_g0.nd rng hf
    clear rbd0 rbd1 rbd2 rblt rwd0 rwd1 rwd2 rwlt rxd0 rxd1 rxd2 rxlt rgd0 rgd1 rgd2 rglt
    replace hx := hx.marked (by repeat (first | (with_reducible exact Ex.refl _) | (with_reducible apply Ex.drew) | (with_reducible apply Ex.plus_add) | (with_reducible apply Ex.plus_drew) | (with_reducible apply Ex.plus) | (with_reducible apply Ex.alloc) | (with_reducible refine Ex.upd1 ?_ (by first | (simp; done) | omega | (simp; omega))) | (with_reducible refine Ex.setCell ?_ (by first | (simp; done) | omega | (simp; omega)) _))) hw (fun c hc => by have := rng c hc; omega)
    replace RB := hid (row_marked RB.out (by repeat (first | (with_reducible exact Ex.refl _) | (with_reducible apply Ex.drew) | (with_reducible apply Ex.plus_add) | (with_reducible apply Ex.plus_drew) | (with_reducible apply Ex.plus) | (with_reducible apply Ex.alloc) | (with_reducible refine Ex.upd1 ?_ (by first | (simp; done) | omega | (simp; omega))) | (with_reducible refine Ex.setCell ?_ (by first | (simp; done) | omega | (simp; omega)) _))) hw (fun h => by have := rng _ h; omega))
    have rbd0 : W6.cell? ⟨w.heap.size, 0, none⟩ = some (.int .i64 mac) := by rw [cell_row RB.out]; rfl
    have rbd1 : W6.cell? ⟨w.heap.size, 1, none⟩ = some (.bool pr) := by rw [cell_row RB.out]; rfl
    have rbd2 : W6.cell? ⟨w.heap.size, 2, none⟩ = some (.slice a xs.length cap) := by rw [cell_row RB.out]; rfl
    have rblt := row_lt RB.out
    replace RW := hid (row_marked RW.out (by repeat (first | (with_reducible exact Ex.refl _) | (with_reducible apply Ex.drew) | (with_reducible apply Ex.plus_add) | (with_reducible apply Ex.plus_drew) | (with_reducible apply Ex.plus) | (with_reducible apply Ex.alloc) | (with_reducible refine Ex.upd1 ?_ (by first | (simp; done) | omega | (simp; omega))) | (with_reducible refine Ex.setCell ?_ (by first | (simp; done) | omega | (simp; omega)) _))) hw (fun h => by have := rng _ h; omega))
    have rwd0 : W6.cell? ⟨W2.heap.size, 0, none⟩ = some (.int .i64 mac) := by rw [cell_row RW.out]; rfl
    have rwd1 : W6.cell? ⟨W2.heap.size, 1, none⟩ = some (.bool pr) := by rw [cell_row RW.out]; rfl
    have rwd2 : W6.cell? ⟨W2.heap.size, 2, none⟩ = some (.slice a_w0 RES.length c_w0) := by rw [cell_row RW.out]; rfl
    have rwlt := row_lt RW.out
    replace RX := hid (row_marked RX.out (by repeat (first | (with_reducible exact Ex.refl _) | (with_reducible apply Ex.drew) | (with_reducible apply Ex.plus_add) | (with_reducible apply Ex.plus_drew) | (with_reducible apply Ex.plus) | (with_reducible apply Ex.alloc) | (with_reducible refine Ex.upd1 ?_ (by first | (simp; done) | omega | (simp; omega))) | (with_reducible refine Ex.setCell ?_ (by first | (simp; done) | omega | (simp; omega)) _))) hw (fun h => by have := rng _ h; omega))
    have rxd0 : W6.cell? ⟨W3.heap.size, 0, none⟩ = some (.int .i64 mac) := by rw [cell_row RX.out]; rfl
    have rxd1 : W6.cell? ⟨W3.heap.size, 1, none⟩ = some (.bool pr) := by rw [cell_row RX.out]; rfl
    have rxd2 : W6.cell? ⟨W3.heap.size, 2, none⟩ = some (.slice a_x0 xs.length c_x0) := by rw [cell_row RX.out]; rfl
    have rxlt := row_lt RX.out
    replace RG := hid (row_marked RG.out (by repeat (first | (with_reducible exact Ex.refl _) | (with_reducible apply Ex.drew) | (with_reducible apply Ex.plus_add) | (with_reducible apply Ex.plus_drew) | (with_reducible apply Ex.plus) | (with_reducible apply Ex.alloc) | (with_reducible refine Ex.upd1 ?_ (by first | (simp; done) | omega | (simp; omega))) | (with_reducible refine Ex.setCell ?_ (by first | (simp; done) | omega | (simp; omega)) _))) hw (fun h => by have := rng _ h; omega))
    have rgd0 : W6.cell? ⟨W4.heap.size, 0, none⟩ = some (.int .i64 mac) := by rw [cell_row RG.out]; rfl
    have rgd1 : W6.cell? ⟨W4.heap.size, 1, none⟩ = some (.bool pr) := by rw [cell_row RG.out]; rfl
    have rgd2 : W6.cell? ⟨W4.heap.size, 2, none⟩ = some (.slice a_g0 RES.length c_g0) := by rw [cell_row RG.out]; rfl
    have rglt := row_lt RG.out
    clear rng hw ht hf
    go_wp2_with (first
          | (go_at_call 49; (with_reducible refine (heldFilter_any _ _ _ RES.length 1 _ (o_g0.holds.ex (by repeat (first | (with_reducible exact Ex.refl _) | (with_reducible apply Ex.drew) | (with_reducible apply Ex.plus_add) | (with_reducible apply Ex.plus_drew) | (with_reducible apply Ex.plus) | (with_reducible apply Ex.alloc) | (with_reducible refine Ex.upd1 ?_ (by first | (simp; done) | omega | (simp; omega))) | (with_reducible refine Ex.setCell ?_ (by first | (simp; done) | omega | (simp; omega)) _)))) (by omega) (by omega)).mono ?_); rintro e w' ⟨rfl, hx3⟩; obtain ⟨gh, rfl⟩ := hx3))
    (with_reducible refine (toFilter_any _ _ _ xs _ (hF.ex (Ex.trans hx (by repeat (first | (with_reducible exact Ex.refl _) | (with_reducible apply Ex.drew) | (with_reducible apply Ex.plus_add) | (with_reducible apply Ex.plus_drew) | (with_reducible apply Ex.plus) | (with_reducible apply Ex.alloc) | (with_reducible refine Ex.upd1 ?_ (by first | (simp; done) | omega | (simp; omega))) | (with_reducible refine Ex.setCell ?_ (by first | (simp; done) | omega | (simp; omega)) _))))) (by omega)).mono ?_); rintro e W7 ⟨a_t3, c_t3, rfl, ho, hx1⟩
    have hp : Ex W6 _ := Ex.trans (show Ex W6 _ from (by repeat (first | (with_reducible exact Ex.refl _) | (with_reducible apply Ex.drew) | (with_reducible apply Ex.plus_add) | (with_reducible apply Ex.plus_drew) | (with_reducible apply Ex.plus) | (with_reducible apply Ex.alloc) | (with_reducible refine Ex.upd1 ?_ (by first | (simp; done) | omega | (simp; omega))) | (with_reducible refine Ex.setCell ?_ (by first | (simp; done) | omega | (simp; omega)) _)))) hx1
    have sz7 : W6.heap.size ≤ W7.heap.size := hp.size
    obtain ⟨bs_t3, o_t3⟩ := ho.inn
    replace o_t3 := o_t3.lower (lo' := W6.heap.size + 0) (by first | (simp; done) | (simp; omega) | exact Ex.size (show Ex W6 _ from (by repeat (first | (with_reducible exact Ex.refl _) | (with_reducible apply Ex.drew) | (with_reducible apply Ex.plus_add) | (with_reducible apply Ex.plus_drew) | (with_reducible apply Ex.plus) | (with_reducible apply Ex.alloc) | (with_reducible refine Ex.upd1 ?_ (by first | (simp; done) | omega | (simp; omega))) | (with_reducible refine Ex.setCell ?_ (by first | (simp; done) | omega | (simp; omega)) _)))))
    replace o_t1 := o_t1.ex hp
    replace o_w0 := o_w0.ex hp
    replace o_x0 := o_x0.ex hp
    replace o_g0 := o_g0.ex hp
    clear rbd0 rbd1 rbd2 rblt rwd0 rwd1 rwd2 rwlt rxd0 rxd1 rxd2 rxlt rgd0 rgd1 rgd2 rglt
    replace hx := Ex.trans hx hp
    replace RB := hid (hp.row RB.out)
    have rbd0 : W7.cell? ⟨w.heap.size, 0, none⟩ = some (.int .i64 mac) := by rw [cell_row RB.out]; rfl
    have rbd1 : W7.cell? ⟨w.heap.size, 1, none⟩ = some (.bool pr) := by rw [cell_row RB.out]; rfl
    have rbd2 : W7.cell? ⟨w.heap.size, 2, none⟩ = some (.slice a xs.length cap) := by rw [cell_row RB.out]; rfl
    have rblt := row_lt RB.out
    replace RW := hid (hp.row RW.out)
    have rwd0 : W7.cell? ⟨W2.heap.size, 0, none⟩ = some (.int .i64 mac) := by rw [cell_row RW.out]; rfl
    have rwd1 : W7.cell? ⟨W2.heap.size, 1, none⟩ = some (.bool pr) := by rw [cell_row RW.out]; rfl
    have rwd2 : W7.cell? ⟨W2.heap.size, 2, none⟩ = some (.slice a_w0 RES.length c_w0) := by rw [cell_row RW.out]; rfl
    have rwlt := row_lt RW.out
    replace RX := hid (hp.row RX.out)
    have rxd0 : W7.cell? ⟨W3.heap.size, 0, none⟩ = some (.int .i64 mac) := by rw [cell_row RX.out]; rfl
    have rxd1 : W7.cell? ⟨W3.heap.size, 1, none⟩ = some (.bool pr) := by rw [cell_row RX.out]; rfl
    have rxd2 : W7.cell? ⟨W3.heap.size, 2, none⟩ = some (.slice a_x0 xs.length c_x0) := by rw [cell_row RX.out]; rfl
    have rxlt := row_lt RX.out
    replace RG := hid (hp.row RG.out)
    have rgd0 : W7.cell? ⟨W4.heap.size, 0, none⟩ = some (.int .i64 mac) := by rw [cell_row RG.out]; rfl
    have rgd1 : W7.cell? ⟨W4.heap.size, 1, none⟩ = some (.bool pr) := by rw [cell_row RG.out]; rfl
    have rgd2 : W7.cell? ⟨W4.heap.size, 2, none⟩ = some (.slice a_g0 RES.length c_g0) := by rw [cell_row RG.out]; rfl
    have rglt := row_lt RG.out
    clear hp hx1 ho
    go_wp2_with fail
    (with_reducible refine (dropR_any _ _ _ xs _ _ (o_t3.holds.ex (by repeat (first | (with_reducible exact Ex.refl _) | (with_reducible apply Ex.drew) | (with_reducible apply Ex.plus_add) | (with_reducible apply Ex.plus_drew) | (with_reducible apply Ex.plus) | (with_reducible apply Ex.alloc) | (with_reducible refine Ex.upd1 ?_ (by first | (simp; done) | omega | (simp; omega))) | (with_reducible refine Ex.setCell ?_ (by first | (simp; done) | omega | (simp; omega)) _)))) (by omega) HR.out HK.out).mono ?_); rintro e W8 ⟨a_h0, c_h0, rfl, ho, hx1⟩
    have hp : Ex W7 _ := Ex.trans (show Ex W7 _ from (by repeat (first | (with_reducible exact Ex.refl _) | (with_reducible apply Ex.drew) | (with_reducible apply Ex.plus_add) | (with_reducible apply Ex.plus_drew) | (with_reducible apply Ex.plus) | (with_reducible apply Ex.alloc) | (with_reducible refine Ex.upd1 ?_ (by first | (simp; done) | omega | (simp; omega))) | (with_reducible refine Ex.setCell ?_ (by first | (simp; done) | omega | (simp; omega)) _)))) hx1
    have sz8 : W7.heap.size ≤ W8.heap.size := hp.size
    obtain ⟨bs_h0, o_h0⟩ := ho.inn
    replace o_h0 := o_h0.lower (lo' := W7.heap.size + 0) (by first | (simp; done) | (simp; omega) | exact Ex.size (show Ex W7 _ from (by repeat (first | (with_reducible exact Ex.refl _) | (with_reducible apply Ex.drew) | (with_reducible apply Ex.plus_add) | (with_reducible apply Ex.plus_drew) | (with_reducible apply Ex.plus) | (with_reducible apply Ex.alloc) | (with_reducible refine Ex.upd1 ?_ (by first | (simp; done) | omega | (simp; omega))) | (with_reducible refine Ex.setCell ?_ (by first | (simp; done) | omega | (simp; omega)) _)))))
    replace o_t1 := o_t1.ex hp
    replace o_w0 := o_w0.ex hp
    replace o_x0 := o_x0.ex hp
    replace o_g0 := o_g0.ex hp
    replace o_t3 := o_t3.ex hp
    clear rbd0 rbd1 rbd2 rblt rwd0 rwd1 rwd2 rwlt rxd0 rxd1 rxd2 rxlt rgd0 rgd1 rgd2 rglt
    replace hx := Ex.trans hx hp
    replace RB := hid (hp.row RB.out)
    have rbd0 : W8.cell? ⟨w.heap.size, 0, none⟩ = some (.int .i64 mac) := by rw [cell_row RB.out]; rfl
    have rbd1 : W8.cell? ⟨w.heap.size, 1, none⟩ = some (.bool pr) := by rw [cell_row RB.out]; rfl
    have rbd2 : W8.cell? ⟨w.heap.size, 2, none⟩ = some (.slice a xs.length cap) := by rw [cell_row RB.out]; rfl
    have rblt := row_lt RB.out
    replace RW := hid (hp.row RW.out)
    have rwd0 : W8.cell? ⟨W2.heap.size, 0, none⟩ = some (.int .i64 mac) := by rw [cell_row RW.out]; rfl
    have rwd1 : W8.cell? ⟨W2.heap.size, 1, none⟩ = some (.bool pr) := by rw [cell_row RW.out]; rfl
    have rwd2 : W8.cell? ⟨W2.heap.size, 2, none⟩ = some (.slice a_w0 RES.length c_w0) := by rw [cell_row RW.out]; rfl
    have rwlt := row_lt RW.out
    replace RX := hid (hp.row RX.out)
    have rxd0 : W8.cell? ⟨W3.heap.size, 0, none⟩ = some (.int .i64 mac) := by rw [cell_row RX.out]; rfl
    have rxd1 : W8.cell? ⟨W3.heap.size, 1, none⟩ = some (.bool pr) := by rw [cell_row RX.out]; rfl
    have rxd2 : W8.cell? ⟨W3.heap.size, 2, none⟩ = some (.slice a_x0 xs.length c_x0) := by rw [cell_row RX.out]; rfl
    have rxlt := row_lt RX.out
    replace RG := hid (hp.row RG.out)
    have rgd0 : W8.cell? ⟨W4.heap.size, 0, none⟩ = some (.int .i64 mac) := by rw [cell_row RG.out]; rfl
    have rgd1 : W8.cell? ⟨W4.heap.size, 1, none⟩ = some (.bool pr) := by rw [cell_row RG.out]; rfl
    have rgd2 : W8.cell? ⟨W4.heap.size, 2, none⟩ = some (.slice a_g0 RES.length c_g0) := by rw [cell_row RG.out]; rfl
    have rglt := row_lt RG.out
    clear hp hx1 ho
    go_wp2_with (first
          | (go_at_call 40; (first | (with_reducible refine (eqFilter_same _ _ _ _ RES _ (o_h0.holds.ex (by repeat (first | (with_reducible exact Ex.refl _) | (with_reducible apply Ex.drew) | (with_reducible apply Ex.plus_add) | (with_reducible apply Ex.plus_drew) | (with_reducible apply Ex.plus) | (with_reducible apply Ex.alloc) | (with_reducible refine Ex.upd1 ?_ (by first | (simp; done) | omega | (simp; omega))) | (with_reducible refine Ex.setCell ?_ (by first | (simp; done) | omega | (simp; omega)) _)))) (o_w0.holds.ex (by repeat (first | (with_reducible exact Ex.refl _) | (with_reducible apply Ex.drew) | (with_reducible apply Ex.plus_add) | (with_reducible apply Ex.plus_drew) | (with_reducible apply Ex.plus) | (with_reducible apply Ex.alloc) | (with_reducible refine Ex.upd1 ?_ (by first | (simp; done) | omega | (simp; omega))) | (with_reducible refine Ex.setCell ?_ (by first | (simp; done) | omega | (simp; omega)) _))))).mono ?_)); rintro e w' ⟨rfl, hx⟩; obtain ⟨g, rfl⟩ := hx)
          | (go_at_call 49; (with_reducible refine (heldFilter_any _ _ _ RES.length 1 _ (o_g0.holds.ex (by repeat (first | (with_reducible exact Ex.refl _) | (with_reducible apply Ex.drew) | (with_reducible apply Ex.plus_add) | (with_reducible apply Ex.plus_drew) | (with_reducible apply Ex.plus) | (with_reducible apply Ex.alloc) | (with_reducible refine Ex.upd1 ?_ (by first | (simp; done) | omega | (simp; omega))) | (with_reducible refine Ex.setCell ?_ (by first | (simp; done) | omega | (simp; omega)) _)))) (by omega) (by omega)).mono ?_); rintro e w' ⟨rfl, hx3⟩; obtain ⟨gh, rfl⟩ := hx3))
    go_ret
    exact ⟨rfl, (by repeat (first | (with_reducible exact hx) | (with_reducible refine Ex.plus ?_ _) | (with_reducible refine Ex.drew ?_) | (with_reducible refine Ex.alloc ?_ _) | (with_reducible refine Ex.upd1 ?_ (by first | assumption | omega | (simp; done) | (simp; omega))) | (with_reducible refine Ex.setCell ?_ (by first | assumption | omega | (simp; done) | (simp; omega)) _) | (with_reducible refine Ex.upd ?_ HBL.out)))⟩

end Go.Proofs.Ytlpipllhbobfbaa
