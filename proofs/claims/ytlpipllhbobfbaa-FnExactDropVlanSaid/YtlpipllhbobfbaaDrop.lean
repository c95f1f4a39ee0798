/- DropVlan of both. -/
import Derived.Test.YtlpipllhbobfbaaRows
import Derived.Test.YtlpipllhbobfbaaFiltF
import Derived.Test.YtlpipllhbobfbaaPlan
namespace Go.Proofs.Ytlpipllhbobfbaa
open Go.RowKit
set_option linter.unusedVariables false

theorem row_set3f {w : World} {b : Nat} {x0 x1 x2 y0 y1 y2 : Value} {E : TypeId} {fr : Nat × Nat} (h : w.heap[b]? = some (.cells #[x0, x1, x2] E fr)) : (((w.setCell ⟨b, 0, none⟩ y0).setCell ⟨b, 1, none⟩ y1).setCell ⟨b, 2, none⟩ y2).heap[b]? = some (.cells #[y0, y1, y2] E fr) := (row_setCell (row_setCell (row_setCell h 0 y0) 1 y1) 2 y2)
theorem row_setAt {w : World} {b : Nat} {C C' : Array Value} {E : TypeId} {fr : Nat × Nat} {i : Nat} {v : Value} (h : w.heap[b]? = some (.cells C E fr)) (hC : C' = C.setIfInBounds i v) : (w.setCell ⟨b, i, none⟩ v).heap[b]? = some (.cells C' E fr) := by subst hC; exact row_setCell h i v
theorem row_set3_2 {w : World} {b : Nat} {x0 x1 x2 y : Value} {E : TypeId} {fr : Nat × Nat} (h : w.heap[b]? = some (.cells #[x0, x1, x2] E fr)) : (w.setCell ⟨b, 2, none⟩ y).heap[b]? = some (.cells #[x0, x1, y] E fr) := row_setCell h 2 y
def RetFiltB (w : World) (mac : Int) (pr : Bool) (ys : List Int) (ok : Bool) (e : Ending) (w' : World) : Prop :=
  ∃ a c, e = .returned (.tuple #[.agg #[.int .i64 mac, .bool pr, .slice a ys.length c], .bool ok]) ∧ Owns w.heap.size w' ys [.slice a ys.length c] ∧ Ex w w'
def dropB (mac : Int) (xs : List Int) (n : Int) : Bool := filterOkB mac xs && hasB xs n
def dropV (mac : Int) (xs : List Int) (n : Int) : List Int := if dropB mac xs n then xs.filter (fun x => x != n) else xs
theorem filter_snoc {xs : List Int} {n : Int} {k : Nat} (h : k < xs.length) : (xs.take (k + 1)).filter (fun x => x != n) = (xs.take k).filter (fun x => x != n) ++ (if xs[k] != n then [xs[k]] else []) := by
  rw [List.take_succ_eq_append_getElem h, List.filter_append]
  congr 1
  by_cases e : xs[k] != n <;> simp [e]
theorem filter_len (xs : List Int) (n : Int) (k : Nat) (h : k ≤ xs.length) : ((xs.take k).filter (fun x => x != n)).length ≤ k := by
  have := List.length_filter_le (fun x => x != n) (xs.take k)
  rw [List.length_take] at this
  omega

set_option maxRecDepth 100000 in
set_option maxHeartbeats 4000000 in
theorem dropVlan_any (mac : Int) (pr : Bool) (v : Value) (xs : List Int) (n : Int) (w : World) (k1 : Holds w xs [v]) (hl : xs.length ≤ 1048576) :
    Calls Try.prog 47 #[.agg #[.int .i64 mac, .bool pr, v], .int .i64 n] w (RetFiltB w mac pr (dropV mac xs n) (dropB mac xs n)) := by
  obtain ⟨a, cap, hv, m1, m2, m3, m4⟩ := k1.ints
  simp only [List.cons.injEq, and_true] at hv
  subst hv
  unfold maxLen at m2
  cases q1 : filterOkB mac xs
  case false =>
    have HD := hid (show dropB mac xs n = false by simp [dropB, q1])
    have HV := hid (show dropV mac xs n = xs by simp [dropV, dropB, q1])
    have H1 := hid q1
    have H2 := hid (show hasB xs n = hasB xs n from rfl)
    clear q1 m3 m4
    go_enter Try.func47, Try.ntmps47
    go_wp2_with fail
    (with_reducible refine (copyFilter_any mac pr _ xs _ (k1.ex (by repeat (first | (with_reducible exact Ex.refl _) | (with_reducible apply Ex.drew) | (with_reducible apply Ex.plus_add) | (with_reducible apply Ex.plus_drew) | (with_reducible apply Ex.plus) | (with_reducible apply Ex.alloc) | (with_reducible refine Ex.upd1 ?_ (by first | (simp; done) | omega | (simp; omega))) | (with_reducible refine Ex.setCell ?_ (by first | (simp; done) | omega | (simp; omega)) _)))) (by omega)).mono ?_); rintro e w' ⟨a1, c1, rfl, ho, hx⟩; obtain ⟨g1, rfl⟩ := hx
    go_wp2_with (first
          | (go_at_call 83; (with_reducible refine (filterOk_v mac _ _ xs _ (k1.ex (by repeat (first | (with_reducible exact Ex.refl _) | (with_reducible apply Ex.drew) | (with_reducible apply Ex.plus_add) | (with_reducible apply Ex.plus_drew) | (with_reducible apply Ex.plus) | (with_reducible apply Ex.alloc) | (with_reducible refine Ex.upd1 ?_ (by first | (simp; done) | omega | (simp; omega))) | (with_reducible refine Ex.setCell ?_ (by first | (simp; done) | omega | (simp; omega)) _)))) H1.out).mono ?_); rintro e w' ⟨rfl, hx⟩; obtain ⟨g, rfl⟩ := hx)
          | (go_at_call 84; (with_reducible refine (hasInt_v _ xs _ _ (k1.ex (by repeat (first | (with_reducible exact Ex.refl _) | (with_reducible apply Ex.drew) | (with_reducible apply Ex.plus_add) | (with_reducible apply Ex.plus_drew) | (with_reducible apply Ex.plus) | (with_reducible apply Ex.alloc) | (with_reducible refine Ex.upd1 ?_ (by first | (simp; done) | omega | (simp; omega))) | (with_reducible refine Ex.setCell ?_ (by first | (simp; done) | omega | (simp; omega)) _)))) H2.out).mono ?_); rintro e w' ⟨rfl, rfl⟩))
    refine bodyPost_ret (v := _) (by simp [results, Try.results47, go_sem] <;> rfl) rfl ?_
    rw [HD.out, HV.out]
    exact ⟨_, _, rfl, (ho.agr (by repeat (first | (with_reducible exact Agr.refl _ _) | (with_reducible refine Agr.of_le (by first | (simp; done) | omega | (simp; omega))) | (with_reducible refine Agr.plus' (by first | (simp; done) | omega | (simp; omega)) ?_ _) | (with_reducible refine Agr.alloc' (by first | (simp; done) | omega | (simp; omega)) ?_ _) | (with_reducible refine Agr.upd' (by first | (simp; done) | omega | (simp; omega)) ?_ _ _) | (with_reducible apply Agr.drewL) | (with_reducible apply Agr.drewR) | (with_reducible refine Agr.setLoR ?_ (by first | (simp; done) | omega | (simp; omega)) _) | (with_reducible refine Agr.setLoL ?_ (by first | (simp; done) | omega | (simp; omega)) _) | (with_reducible refine Agr.plusR (by first | (simp; done) | omega | (simp; omega)) ?_ _) | (with_reducible refine Agr.allocR (by first | (simp; done) | omega | (simp; omega)) ?_ _)))).lower (by first | (simp; done) | omega | (simp; omega)), (by repeat (first | (with_reducible exact Ex.refl _) | (with_reducible apply Ex.plus_add) | (with_reducible apply Ex.plus_drew) | (with_reducible apply Ex.plus) | (with_reducible apply Ex.alloc) | (with_reducible apply Ex.drew)))⟩
  case true =>
  cases q2 : hasB xs n
  case false =>
    have HD := hid (show dropB mac xs n = false by simp [dropB, q2])
    have HV := hid (show dropV mac xs n = xs by simp [dropV, dropB, q2])
    have H1 := hid q1
    have H2 := hid q2
    clear q1 q2 m3 m4
    go_enter Try.func47, Try.ntmps47
    go_wp2_with fail
    (with_reducible refine (copyFilter_any mac pr _ xs _ (k1.ex (by repeat (first | (with_reducible exact Ex.refl _) | (with_reducible apply Ex.drew) | (with_reducible apply Ex.plus_add) | (with_reducible apply Ex.plus_drew) | (with_reducible apply Ex.plus) | (with_reducible apply Ex.alloc) | (with_reducible refine Ex.upd1 ?_ (by first | (simp; done) | omega | (simp; omega))) | (with_reducible refine Ex.setCell ?_ (by first | (simp; done) | omega | (simp; omega)) _)))) (by omega)).mono ?_); rintro e w' ⟨a1, c1, rfl, ho, hx⟩; obtain ⟨g1, rfl⟩ := hx
    go_wp2_with (first
          | (go_at_call 83; (with_reducible refine (filterOk_v mac _ _ xs _ (k1.ex (by repeat (first | (with_reducible exact Ex.refl _) | (with_reducible apply Ex.drew) | (with_reducible apply Ex.plus_add) | (with_reducible apply Ex.plus_drew) | (with_reducible apply Ex.plus) | (with_reducible apply Ex.alloc) | (with_reducible refine Ex.upd1 ?_ (by first | (simp; done) | omega | (simp; omega))) | (with_reducible refine Ex.setCell ?_ (by first | (simp; done) | omega | (simp; omega)) _)))) H1.out).mono ?_); rintro e w' ⟨rfl, hx⟩; obtain ⟨g, rfl⟩ := hx)
          | (go_at_call 84; (with_reducible refine (hasInt_v _ xs _ _ (k1.ex (by repeat (first | (with_reducible exact Ex.refl _) | (with_reducible apply Ex.drew) | (with_reducible apply Ex.plus_add) | (with_reducible apply Ex.plus_drew) | (with_reducible apply Ex.plus) | (with_reducible apply Ex.alloc) | (with_reducible refine Ex.upd1 ?_ (by first | (simp; done) | omega | (simp; omega))) | (with_reducible refine Ex.setCell ?_ (by first | (simp; done) | omega | (simp; omega)) _)))) H2.out).mono ?_); rintro e w' ⟨rfl, rfl⟩))
    refine bodyPost_ret (v := _) (by simp [results, Try.results47, go_sem] <;> rfl) rfl ?_
    rw [HD.out, HV.out]
    exact ⟨_, _, rfl, (ho.agr (by repeat (first | (with_reducible exact Agr.refl _ _) | (with_reducible refine Agr.of_le (by first | (simp; done) | omega | (simp; omega))) | (with_reducible refine Agr.plus' (by first | (simp; done) | omega | (simp; omega)) ?_ _) | (with_reducible refine Agr.alloc' (by first | (simp; done) | omega | (simp; omega)) ?_ _) | (with_reducible refine Agr.upd' (by first | (simp; done) | omega | (simp; omega)) ?_ _ _) | (with_reducible apply Agr.drewL) | (with_reducible apply Agr.drewR) | (with_reducible refine Agr.setLoR ?_ (by first | (simp; done) | omega | (simp; omega)) _) | (with_reducible refine Agr.setLoL ?_ (by first | (simp; done) | omega | (simp; omega)) _) | (with_reducible refine Agr.plusR (by first | (simp; done) | omega | (simp; omega)) ?_ _) | (with_reducible refine Agr.allocR (by first | (simp; done) | omega | (simp; omega)) ?_ _)))).lower (by first | (simp; done) | omega | (simp; omega)), (by repeat (first | (with_reducible exact Ex.refl _) | (with_reducible apply Ex.plus_add) | (with_reducible apply Ex.plus_drew) | (with_reducible apply Ex.plus) | (with_reducible apply Ex.alloc) | (with_reducible apply Ex.drew)))⟩
  case true =>
  have HD := hid (show dropB mac xs n = true by simp [dropB, q1, q2])
  have HV := hid (show dropV mac xs n = xs.filter (fun x => x != n) by simp [dropV, dropB, q1, q2])
  have H1 := hid q1
  have H2 := hid q2
  have M3 := hid m3
  have M4 := hid m4
  clear q1 q2 m3 m4
  go_enter Try.func47, Try.ntmps47
  go_wp2_with fail
  (with_reducible refine (copyFilter_any mac pr _ xs _ (k1.ex (by repeat (first | (with_reducible exact Ex.refl _) | (with_reducible apply Ex.drew) | (with_reducible apply Ex.plus_add) | (with_reducible apply Ex.plus_drew) | (with_reducible apply Ex.plus) | (with_reducible apply Ex.alloc) | (with_reducible refine Ex.upd1 ?_ (by first | (simp; done) | omega | (simp; omega))) | (with_reducible refine Ex.setCell ?_ (by first | (simp; done) | omega | (simp; omega)) _)))) (by omega)).mono ?_); rintro e w' ⟨a1, c1, rfl, ho, hx⟩; obtain ⟨g1, rfl⟩ := hx
  go_wp2_with (first
        | (go_at_call 83; (with_reducible refine (filterOk_v mac _ _ xs _ (k1.ex (by repeat (first | (with_reducible exact Ex.refl _) | (with_reducible apply Ex.drew) | (with_reducible apply Ex.plus_add) | (with_reducible apply Ex.plus_drew) | (with_reducible apply Ex.plus) | (with_reducible apply Ex.alloc) | (with_reducible refine Ex.upd1 ?_ (by first | (simp; done) | omega | (simp; omega))) | (with_reducible refine Ex.setCell ?_ (by first | (simp; done) | omega | (simp; omega)) _)))) H1.out).mono ?_); rintro e w' ⟨rfl, hx⟩; obtain ⟨g, rfl⟩ := hx)
        | (go_at_call 84; (with_reducible refine (hasInt_v _ xs _ _ (k1.ex (by repeat (first | (with_reducible exact Ex.refl _) | (with_reducible apply Ex.drew) | (with_reducible apply Ex.plus_add) | (with_reducible apply Ex.plus_drew) | (with_reducible apply Ex.plus) | (with_reducible apply Ex.alloc) | (with_reducible refine Ex.upd1 ?_ (by first | (simp; done) | omega | (simp; omega))) | (with_reducible refine Ex.setCell ?_ (by first | (simp; done) | omega | (simp; omega)) _)))) H2.out).mono ?_); rintro e w' ⟨rfl, rfl⟩))
  generalize hOd : w.heap.size + 1 + 1 + g1.o.size = O
  have lO : w.heap.size + 1 < O := by omega
  have HOD := hid hOd
  clear hOd ho
  go_loopw [27] (fun i wr => ∃ (k : Nat) (vo : Value), i = .int .i64 k ∧ k ≤ xs.length ∧ Slot (O + 1) wr 3 1 vo ((xs.take k).filter (fun x => x != n)).length (((xs.take k).filter (fun x => x != n)).map (Value.int .i64)) ∧ Ex w wr ∧ wr.heap[w.heap.size]? = some (.cells #[.int .i64 mac, .bool pr, .slice a xs.length cap] 58 (0, 0)) ∧ wr.heap[w.heap.size + 1]? = some (.cells #[.int .i64 0, .bool false, .slice none 0 0] 58 (0, 0)) ∧ wr.heap[O]? = some (.cells #[.int .i64 mac, .bool pr, vo] 58 (0, 0))) (fun i _ => xs.length - (intOf i).toNat)
  case atStart =>
    have hOd := HOD.out
    refine ⟨0, _, rfl, Nat.zero_le _, ?_, (by repeat (first | (with_reducible exact Ex.refl _) | (with_reducible refine Ex.plus ?_ _) | (with_reducible refine Ex.drew ?_) | (with_reducible refine Ex.alloc ?_ _) | (with_reducible refine Ex.upd1 ?_ (by first | assumption | omega | (simp; done) | (simp; omega))) | (with_reducible refine Ex.setCell ?_ (by first | assumption | omega | (simp; done) | (simp; omega)) _) | (with_reducible refine Ex.upd ?_ HBL.out))), (by (repeat (first | (with_reducible refine row_plus ?_) | (with_reducible refine row_drew ?_) | (with_reducible exact row_allocN (by first | assumption | (simp; done) | (simp; omega))) | (with_reducible refine row_allocO ?_) | (with_reducible refine row_updN (by first | assumption | exact Ne.symm (by assumption) | (simp; omega)) ?_) | (with_reducible refine row_setO (by first | assumption | exact Ne.symm (by assumption) | (simp; omega)) ?_) | (with_reducible refine row_updO (by assumption) ?_))); try exact rfl), (by (repeat (first | (with_reducible refine row_plus ?_) | (with_reducible refine row_drew ?_) | (with_reducible exact row_allocN (by first | assumption | (simp; done) | (simp; omega))) | (with_reducible refine row_allocO ?_) | (with_reducible refine row_updN (by first | assumption | exact Ne.symm (by assumption) | (simp; omega)) ?_) | (with_reducible refine row_setO (by first | assumption | exact Ne.symm (by assumption) | (simp; omega)) ?_) | (with_reducible refine row_updO (by assumption) ?_))); try exact rfl), (by (repeat (first | (with_reducible refine row_plus ?_) | (with_reducible refine row_drew ?_) | (with_reducible exact row_allocN (by first | assumption | (simp; done) | (simp; omega))) | (with_reducible refine row_allocO ?_) | (with_reducible refine row_updN (by first | assumption | exact Ne.symm (by assumption) | (simp; omega)) ?_) | (with_reducible refine row_setO (by first | assumption | exact Ne.symm (by assumption) | (simp; omega)) ?_) | (with_reducible refine row_updO (by assumption) ?_))); try exact hOd)⟩
    repeat (first | (with_reducible refine Slot.plus ?_ _) | exact Slot.madeN (by first | (simp; done) | omega | (simp; omega)) (by first | (simp; done) | omega | (simp; omega)))
  case round =>
    obtain ⟨k, vo, rfl, hk, hs, hx, hr0, hr1, hro⟩ := hrel
    have hfl := filter_len xs n k hk
    generalize hys : (xs.take k).filter (fun x => x != n) = ys at hs hfl
    obtain ⟨a1, c1, rfl, hc1⟩ := hs.form
    have hnO : O ∉ (Value.slice a1 ys.length c1).blk := fun h => by have := (hs.blk_lt _ h).1; omega
    have hn0 : w.heap.size ∉ (Value.slice a1 ys.length c1).blk := fun h => by have := (hs.blk_lt _ h).1; omega
    have hn1 : w.heap.size + 1 ∉ (Value.slice a1 ys.length c1).blk := fun h => by have := (hs.blk_lt _ h).1; omega
    have HBL := hid (show ∀ x ∈ (Value.slice a1 ys.length c1).blk, w.heap.size ≤ x from fun x hx => by have := (hs.blk_lt _ hx).1; omega)
    have d0 : wr.cell? ⟨w.heap.size, 0, none⟩ = some (.int .i64 mac) := by rw [cell_row hr0]; rfl
    have d1 : wr.cell? ⟨w.heap.size, 1, none⟩ = some (.bool pr) := by rw [cell_row hr0]; rfl
    have d2 : wr.cell? ⟨w.heap.size, 2, none⟩ = some (.slice a xs.length cap) := by rw [cell_row hr0]; rfl
    have de0 : wr.cell? ⟨(w.heap.size + 1), 0, none⟩ = some (.int .i64 0) := by rw [cell_row hr1]; rfl
    have de1 : wr.cell? ⟨(w.heap.size + 1), 1, none⟩ = some (.bool false) := by rw [cell_row hr1]; rfl
    have de2 : wr.cell? ⟨(w.heap.size + 1), 2, none⟩ = some (.slice none 0 0) := by rw [cell_row hr1]; rfl
    have fe0 := frozen_row hr1 0
    have fe1 := frozen_row hr1 1
    have fe2 := frozen_row hr1 2
    have do0 : wr.cell? ⟨O, 0, none⟩ = some (.int .i64 mac) := by rw [cell_row hro]; rfl
    have do1 : wr.cell? ⟨O, 1, none⟩ = some (.bool pr) := by rw [cell_row hro]; rfl
    have do2 : wr.cell? ⟨O, 2, none⟩ = some (.slice a1 ys.length c1) := by rw [cell_row hro]; rfl
    have fo0 := frozen_row hro 0
    have fo1 := frozen_row hro 1
    have fo2 := frozen_row hro 2
    have lr0 := row_lt hr0
    have lr1 := row_lt hr1
    have lrO := row_lt hro
    have HR0 := hid hr0
    have HR1 := hid hr1
    have HO := hid hro
    have HX := hid hx
    have HS := hid hs
    have HYS := hid hys
    clear hr0 hr1 hro hx hs hys
    by_cases hlt : k < xs.length
    case neg =>
      obtain rfl : k = xs.length := by omega
      have hys := HYS.out
      rw [List.take_length] at hys
      go_wp2
      refine bodyPost_ret (v := _) (by simp [results, Try.results47, go_sem, de0, de1, de2] <;> rfl) rfl ?_
      rw [HD.out, HV.out, hys]
      exact ⟨_, _, rfl, ((Slot.ints (show Slot (O + 1) _ 3 1 _ ys.length _ from (by repeat (first | (with_reducible exact HS.out) | (with_reducible refine Slot.setLo ?_ (by first | (simp; done) | omega | (simp; omega)) _)))) (fun x hx => by rw [← hys] at hx; exact M4.out x (List.mem_filter.1 hx).1)).2).lower (by omega), (by repeat (first | (with_reducible exact HX.out) | (with_reducible refine Ex.plus ?_ _) | (with_reducible refine Ex.drew ?_) | (with_reducible refine Ex.alloc ?_ _) | (with_reducible refine Ex.upd1 ?_ (by first | assumption | omega | (simp; done) | (simp; omega))) | (with_reducible refine Ex.setCell ?_ (by first | assumption | omega | (simp; done) | (simp; omega)) _) | (with_reducible refine Ex.upd ?_ HBL.out)))⟩
    case pos =>
      obtain ⟨b, off, rfl, hc⟩ := M3.out k hlt
      have hbl : b < w.heap.size := World.block_lt_of_cell? _ _ hc
      replace hc := (HX.out.cell hbl).trans hc
      have hbl2 := World.block_lt_of_cell? _ _ hc
      obtain ⟨y, hy⟩ : ∃ y, y = xs[k] := ⟨_, rfl⟩
      rw [← hy] at hc
      have HY := hid hy.symm
      clear hy
      cases hne : (y != n)
      case false =>
        have HN := hid hne
        go_wp2
        go_roundw
        case rel =>
          refine ⟨k + 1, _, by go_num, by omega, ?_, (by repeat (first | (with_reducible exact HX.out) | (with_reducible refine Ex.plus ?_ _) | (with_reducible refine Ex.drew ?_) | (with_reducible refine Ex.alloc ?_ _) | (with_reducible refine Ex.upd1 ?_ (by first | assumption | omega | (simp; done) | (simp; omega))) | (with_reducible refine Ex.setCell ?_ (by first | assumption | omega | (simp; done) | (simp; omega)) _) | (with_reducible refine Ex.upd ?_ HBL.out))), (by (repeat (first | (with_reducible refine row_plus ?_) | (with_reducible refine row_drew ?_) | (with_reducible exact row_allocN (by first | assumption | (simp; done) | (simp; omega))) | (with_reducible refine row_allocO ?_) | (with_reducible refine row_updN (by first | assumption | exact Ne.symm (by assumption) | (simp; omega)) ?_) | (with_reducible refine row_setO (by first | assumption | exact Ne.symm (by assumption) | (simp; omega)) ?_) | (with_reducible refine row_updO (by assumption) ?_))); try exact HR0.out), (by (repeat (first | (with_reducible refine row_plus ?_) | (with_reducible refine row_drew ?_) | (with_reducible exact row_allocN (by first | assumption | (simp; done) | (simp; omega))) | (with_reducible refine row_allocO ?_) | (with_reducible refine row_updN (by first | assumption | exact Ne.symm (by assumption) | (simp; omega)) ?_) | (with_reducible refine row_setO (by first | assumption | exact Ne.symm (by assumption) | (simp; omega)) ?_) | (with_reducible refine row_updO (by assumption) ?_))); try exact HR1.out), (by (repeat (first | (with_reducible refine row_plus ?_) | (with_reducible refine row_drew ?_) | (with_reducible exact row_allocN (by first | assumption | (simp; done) | (simp; omega))) | (with_reducible refine row_allocO ?_) | (with_reducible refine row_updN (by first | assumption | exact Ne.symm (by assumption) | (simp; omega)) ?_) | (with_reducible refine row_setO (by first | assumption | exact Ne.symm (by assumption) | (simp; omega)) ?_) | (with_reducible refine row_updO (by assumption) ?_))); try exact HO.out)⟩
          · rw [filter_snoc hlt, HY.out, HN.out, if_neg (by simp), List.append_nil, HYS.out]; exact (by repeat (first | (with_reducible exact HS.out) | (with_reducible refine Slot.plus ?_ _) | (with_reducible refine Slot.alloc ?_ _) | (with_reducible refine Slot.drew ?_)))
        case measure => simp [intOf]; omega
      case true =>
        have HN := hid hne
        go_wp2_with (first
              | (at_builtin; refine wpList_app rfl _ _ 33 33 rfl 3 (.int .i64 0) 1 8 Try.underlying33 info_int rfl (O + 1) (.slice a1 ys.length c1) ys.length (ys.map (Value.int .i64)) rfl (by repeat (first | (with_reducible exact HS.out) | (with_reducible refine Slot.plus ?_ _) | (with_reducible refine Slot.alloc ?_ _) | (with_reducible refine Slot.drew ?_))) _ 1 [.int .i64 y] rfl (Src.lone Try.underlying33 #[.int .i64 y] (by intro u hu; simp at hu; subst hu; rfl) _ (row_allocN (by first | (simp; done) | omega | (simp; omega)))) (by unfold maxLen; omega) (by omega) (by first | (simp; done) | omega | (simp; omega)) ?_; intro v' f g9 hs2 hb2; obtain ⟨a2, c2, rfl, hc2⟩ := hs2.form))
        go_roundw
        case rel =>
          refine ⟨k + 1, _, by go_num, by omega, ?_, (by repeat (first | (with_reducible exact HX.out) | (with_reducible refine Ex.plus ?_ _) | (with_reducible refine Ex.drew ?_) | (with_reducible refine Ex.alloc ?_ _) | (with_reducible refine Ex.upd1 ?_ (by first | assumption | omega | (simp; done) | (simp; omega))) | (with_reducible refine Ex.setCell ?_ (by first | assumption | omega | (simp; done) | (simp; omega)) _) | (with_reducible refine Ex.upd ?_ HBL.out))), (by (repeat (first | (with_reducible refine row_plus ?_) | (with_reducible refine row_drew ?_) | (with_reducible exact row_allocN (by first | assumption | (simp; done) | (simp; omega))) | (with_reducible refine row_allocO ?_) | (with_reducible refine row_updN (by first | assumption | exact Ne.symm (by assumption) | (simp; omega)) ?_) | (with_reducible refine row_setO (by first | assumption | exact Ne.symm (by assumption) | (simp; omega)) ?_) | (with_reducible refine row_updO (by assumption) ?_))); try exact HR0.out), (by (repeat (first | (with_reducible refine row_plus ?_) | (with_reducible refine row_drew ?_) | (with_reducible exact row_allocN (by first | assumption | (simp; done) | (simp; omega))) | (with_reducible refine row_allocO ?_) | (with_reducible refine row_updN (by first | assumption | exact Ne.symm (by assumption) | (simp; omega)) ?_) | (with_reducible refine row_setO (by first | assumption | exact Ne.symm (by assumption) | (simp; omega)) ?_) | (with_reducible refine row_updO (by assumption) ?_))); try exact HR1.out), (by (repeat (first | (with_reducible refine row_plus ?_) | (with_reducible refine row_drew ?_) | (with_reducible exact row_allocN (by first | assumption | (simp; done) | (simp; omega))) | (with_reducible refine row_allocO ?_) | (with_reducible refine row_updN (by first | assumption | exact Ne.symm (by assumption) | (simp; omega)) ?_) | (with_reducible refine row_setO (by first | assumption | exact Ne.symm (by assumption) | (simp; omega)) ?_) | (with_reducible refine row_updO (by assumption) ?_))); try exact (row_set3_2 HO.out))⟩
          · rw [filter_snoc hlt, HY.out, HN.out, if_pos rfl, HYS.out, List.length_append, List.map_append]
            exact hs2.agr (by repeat (first | (with_reducible exact Agr.refl _ _) | (with_reducible refine Agr.of_le (by first | (simp; done) | omega | (simp; omega))) | (with_reducible refine Agr.plus' (by first | (simp; done) | omega | (simp; omega)) ?_ _) | (with_reducible refine Agr.alloc' (by first | (simp; done) | omega | (simp; omega)) ?_ _) | (with_reducible refine Agr.upd' (by first | (simp; done) | omega | (simp; omega)) ?_ _ _) | (with_reducible apply Agr.drewL) | (with_reducible apply Agr.drewR) | (with_reducible refine Agr.setLoR ?_ (by first | (simp; done) | omega | (simp; omega)) _) | (with_reducible refine Agr.setLoL ?_ (by first | (simp; done) | omega | (simp; omega)) _) | (with_reducible refine Agr.plusR (by first | (simp; done) | omega | (simp; omega)) ?_ _) | (with_reducible refine Agr.allocR (by first | (simp; done) | omega | (simp; omega)) ?_ _)))
        case measure => simp [intOf]; omega

set_option maxRecDepth 100000 in
set_option maxHeartbeats 4000000 in
theorem dropVlanS_any (mac : Int) (pr : Bool) (v : Value) (xs : List Int) (n : Int) (w : World) (k1 : Holds w xs [v]) (hl : xs.length ≤ 1048576) :
    Calls Try.prog 46 #[.agg #[.int .i64 mac, .bool pr, v], .int .i64 n] w (RetFiltB w mac pr (dropV mac xs n) (dropB mac xs n)) := by
  obtain ⟨a, cap, hv, m1, m2, m3, m4⟩ := k1.ints
  simp only [List.cons.injEq, and_true] at hv
  subst hv
  unfold maxLen at m2
  cases q1 : filterOkB mac xs
  case false =>
    have HD := hid (show dropB mac xs n = false by simp [dropB, q1])
    have HV := hid (show dropV mac xs n = xs by simp [dropV, dropB, q1])
    have H1 := hid q1
    have H2 := hid (show hasB xs n = hasB xs n from rfl)
    clear q1 m3 m4
    go_enter Try.func46, Try.ntmps46
    go_wp2_with fail
    (with_reducible refine (l24Copy_any mac pr _ xs _ (k1.ex (by repeat (first | (with_reducible exact Ex.refl _) | (with_reducible apply Ex.drew) | (with_reducible apply Ex.plus_add) | (with_reducible apply Ex.plus_drew) | (with_reducible apply Ex.plus) | (with_reducible apply Ex.alloc) | (with_reducible refine Ex.upd1 ?_ (by first | (simp; done) | omega | (simp; omega))) | (with_reducible refine Ex.setCell ?_ (by first | (simp; done) | omega | (simp; omega)) _)))) (by omega)).mono ?_); rintro e w' ⟨a1, c1, rfl, ho, hx⟩; obtain ⟨g1, rfl⟩ := hx
    go_wp2_with (first
          | (go_at_call 80; (with_reducible refine (filterOkS_v mac _ _ xs _ (k1.ex (by repeat (first | (with_reducible exact Ex.refl _) | (with_reducible apply Ex.drew) | (with_reducible apply Ex.plus_add) | (with_reducible apply Ex.plus_drew) | (with_reducible apply Ex.plus) | (with_reducible apply Ex.alloc) | (with_reducible refine Ex.upd1 ?_ (by first | (simp; done) | omega | (simp; omega))) | (with_reducible refine Ex.setCell ?_ (by first | (simp; done) | omega | (simp; omega)) _)))) H1.out).mono ?_); rintro e w' ⟨rfl, hx⟩; obtain ⟨g, rfl⟩ := hx)
          | (go_at_call 81; (with_reducible refine (l24Has_v _ xs _ _ (k1.ex (by repeat (first | (with_reducible exact Ex.refl _) | (with_reducible apply Ex.drew) | (with_reducible apply Ex.plus_add) | (with_reducible apply Ex.plus_drew) | (with_reducible apply Ex.plus) | (with_reducible apply Ex.alloc) | (with_reducible refine Ex.upd1 ?_ (by first | (simp; done) | omega | (simp; omega))) | (with_reducible refine Ex.setCell ?_ (by first | (simp; done) | omega | (simp; omega)) _)))) H2.out).mono ?_); rintro e w' ⟨rfl, rfl⟩))
    refine bodyPost_ret (v := _) (by simp [results, Try.results46, go_sem] <;> rfl) rfl ?_
    rw [HD.out, HV.out]
    exact ⟨_, _, rfl, (ho.agr (by repeat (first | (with_reducible exact Agr.refl _ _) | (with_reducible refine Agr.of_le (by first | (simp; done) | omega | (simp; omega))) | (with_reducible refine Agr.plus' (by first | (simp; done) | omega | (simp; omega)) ?_ _) | (with_reducible refine Agr.alloc' (by first | (simp; done) | omega | (simp; omega)) ?_ _) | (with_reducible refine Agr.upd' (by first | (simp; done) | omega | (simp; omega)) ?_ _ _) | (with_reducible apply Agr.drewL) | (with_reducible apply Agr.drewR) | (with_reducible refine Agr.setLoR ?_ (by first | (simp; done) | omega | (simp; omega)) _) | (with_reducible refine Agr.setLoL ?_ (by first | (simp; done) | omega | (simp; omega)) _) | (with_reducible refine Agr.plusR (by first | (simp; done) | omega | (simp; omega)) ?_ _) | (with_reducible refine Agr.allocR (by first | (simp; done) | omega | (simp; omega)) ?_ _)))).lower (by first | (simp; done) | omega | (simp; omega)), (by repeat (first | (with_reducible exact Ex.refl _) | (with_reducible apply Ex.plus_add) | (with_reducible apply Ex.plus_drew) | (with_reducible apply Ex.plus) | (with_reducible apply Ex.alloc) | (with_reducible apply Ex.drew)))⟩
  case true =>
  cases q2 : hasB xs n
  case false =>
    have HD := hid (show dropB mac xs n = false by simp [dropB, q2])
    have HV := hid (show dropV mac xs n = xs by simp [dropV, dropB, q2])
    have H1 := hid q1
    have H2 := hid q2
    clear q1 q2 m3 m4
    go_enter Try.func46, Try.ntmps46
    go_wp2_with fail
    (with_reducible refine (l24Copy_any mac pr _ xs _ (k1.ex (by repeat (first | (with_reducible exact Ex.refl _) | (with_reducible apply Ex.drew) | (with_reducible apply Ex.plus_add) | (with_reducible apply Ex.plus_drew) | (with_reducible apply Ex.plus) | (with_reducible apply Ex.alloc) | (with_reducible refine Ex.upd1 ?_ (by first | (simp; done) | omega | (simp; omega))) | (with_reducible refine Ex.setCell ?_ (by first | (simp; done) | omega | (simp; omega)) _)))) (by omega)).mono ?_); rintro e w' ⟨a1, c1, rfl, ho, hx⟩; obtain ⟨g1, rfl⟩ := hx
    go_wp2_with (first
          | (go_at_call 80; (with_reducible refine (filterOkS_v mac _ _ xs _ (k1.ex (by repeat (first | (with_reducible exact Ex.refl _) | (with_reducible apply Ex.drew) | (with_reducible apply Ex.plus_add) | (with_reducible apply Ex.plus_drew) | (with_reducible apply Ex.plus) | (with_reducible apply Ex.alloc) | (with_reducible refine Ex.upd1 ?_ (by first | (simp; done) | omega | (simp; omega))) | (with_reducible refine Ex.setCell ?_ (by first | (simp; done) | omega | (simp; omega)) _)))) H1.out).mono ?_); rintro e w' ⟨rfl, hx⟩; obtain ⟨g, rfl⟩ := hx)
          | (go_at_call 81; (with_reducible refine (l24Has_v _ xs _ _ (k1.ex (by repeat (first | (with_reducible exact Ex.refl _) | (with_reducible apply Ex.drew) | (with_reducible apply Ex.plus_add) | (with_reducible apply Ex.plus_drew) | (with_reducible apply Ex.plus) | (with_reducible apply Ex.alloc) | (with_reducible refine Ex.upd1 ?_ (by first | (simp; done) | omega | (simp; omega))) | (with_reducible refine Ex.setCell ?_ (by first | (simp; done) | omega | (simp; omega)) _)))) H2.out).mono ?_); rintro e w' ⟨rfl, rfl⟩))
    refine bodyPost_ret (v := _) (by simp [results, Try.results46, go_sem] <;> rfl) rfl ?_
    rw [HD.out, HV.out]
    exact ⟨_, _, rfl, (ho.agr (by repeat (first | (with_reducible exact Agr.refl _ _) | (with_reducible refine Agr.of_le (by first | (simp; done) | omega | (simp; omega))) | (with_reducible refine Agr.plus' (by first | (simp; done) | omega | (simp; omega)) ?_ _) | (with_reducible refine Agr.alloc' (by first | (simp; done) | omega | (simp; omega)) ?_ _) | (with_reducible refine Agr.upd' (by first | (simp; done) | omega | (simp; omega)) ?_ _ _) | (with_reducible apply Agr.drewL) | (with_reducible apply Agr.drewR) | (with_reducible refine Agr.setLoR ?_ (by first | (simp; done) | omega | (simp; omega)) _) | (with_reducible refine Agr.setLoL ?_ (by first | (simp; done) | omega | (simp; omega)) _) | (with_reducible refine Agr.plusR (by first | (simp; done) | omega | (simp; omega)) ?_ _) | (with_reducible refine Agr.allocR (by first | (simp; done) | omega | (simp; omega)) ?_ _)))).lower (by first | (simp; done) | omega | (simp; omega)), (by repeat (first | (with_reducible exact Ex.refl _) | (with_reducible apply Ex.plus_add) | (with_reducible apply Ex.plus_drew) | (with_reducible apply Ex.plus) | (with_reducible apply Ex.alloc) | (with_reducible apply Ex.drew)))⟩
  case true =>
  have HD := hid (show dropB mac xs n = true by simp [dropB, q1, q2])
  have HV := hid (show dropV mac xs n = xs.filter (fun x => x != n) by simp [dropV, dropB, q1, q2])
  have H1 := hid q1
  have H2 := hid q2
  have M3 := hid m3
  have M4 := hid m4
  clear q1 q2 m3 m4
  go_enter Try.func46, Try.ntmps46
  go_wp2_with fail
  (with_reducible refine (l24Copy_any mac pr _ xs _ (k1.ex (by repeat (first | (with_reducible exact Ex.refl _) | (with_reducible apply Ex.drew) | (with_reducible apply Ex.plus_add) | (with_reducible apply Ex.plus_drew) | (with_reducible apply Ex.plus) | (with_reducible apply Ex.alloc) | (with_reducible refine Ex.upd1 ?_ (by first | (simp; done) | omega | (simp; omega))) | (with_reducible refine Ex.setCell ?_ (by first | (simp; done) | omega | (simp; omega)) _)))) (by omega)).mono ?_); rintro e w' ⟨a1, c1, rfl, ho, hx⟩; obtain ⟨g1, rfl⟩ := hx
  go_wp2_with (first
        | (go_at_call 80; (with_reducible refine (filterOkS_v mac _ _ xs _ (k1.ex (by repeat (first | (with_reducible exact Ex.refl _) | (with_reducible apply Ex.drew) | (with_reducible apply Ex.plus_add) | (with_reducible apply Ex.plus_drew) | (with_reducible apply Ex.plus) | (with_reducible apply Ex.alloc) | (with_reducible refine Ex.upd1 ?_ (by first | (simp; done) | omega | (simp; omega))) | (with_reducible refine Ex.setCell ?_ (by first | (simp; done) | omega | (simp; omega)) _)))) H1.out).mono ?_); rintro e w' ⟨rfl, hx⟩; obtain ⟨g, rfl⟩ := hx)
        | (go_at_call 81; (with_reducible refine (l24Has_v _ xs _ _ (k1.ex (by repeat (first | (with_reducible exact Ex.refl _) | (with_reducible apply Ex.drew) | (with_reducible apply Ex.plus_add) | (with_reducible apply Ex.plus_drew) | (with_reducible apply Ex.plus) | (with_reducible apply Ex.alloc) | (with_reducible refine Ex.upd1 ?_ (by first | (simp; done) | omega | (simp; omega))) | (with_reducible refine Ex.setCell ?_ (by first | (simp; done) | omega | (simp; omega)) _)))) H2.out).mono ?_); rintro e w' ⟨rfl, rfl⟩))
  generalize hOd : w.heap.size + 1 + 1 + g1.o.size = O
  have lO : w.heap.size + 1 < O := by omega
  have HOD := hid hOd
  clear hOd ho
  go_loopw [7] (fun i wr => ∃ (k : Nat) (vo : Value), i = .int .i64 k ∧ k ≤ xs.length ∧ Slot (O + 1) wr 3 1 vo ((xs.take k).filter (fun x => x != n)).length (((xs.take k).filter (fun x => x != n)).map (Value.int .i64)) ∧ Ex w wr ∧ wr.heap[w.heap.size]? = some (.cells #[.int .i64 mac, .bool pr, .slice a xs.length cap] 58 (0, 0)) ∧ wr.heap[w.heap.size + 1]? = some (.cells #[.int .i64 0, .bool false, .slice none 0 0] 58 (0, 0)) ∧ wr.heap[O]? = some (.cells #[.int .i64 mac, .bool pr, vo] 58 (0, 0))) (fun i _ => xs.length - (intOf i).toNat)
  case atStart =>
    have hOd := HOD.out
    refine ⟨0, _, rfl, Nat.zero_le _, ?_, (by repeat (first | (with_reducible exact Ex.refl _) | (with_reducible refine Ex.plus ?_ _) | (with_reducible refine Ex.drew ?_) | (with_reducible refine Ex.alloc ?_ _) | (with_reducible refine Ex.upd1 ?_ (by first | assumption | omega | (simp; done) | (simp; omega))) | (with_reducible refine Ex.setCell ?_ (by first | assumption | omega | (simp; done) | (simp; omega)) _) | (with_reducible refine Ex.upd ?_ HBL.out))), (by (repeat (first | (with_reducible refine row_plus ?_) | (with_reducible refine row_drew ?_) | (with_reducible exact row_allocN (by first | assumption | (simp; done) | (simp; omega))) | (with_reducible refine row_allocO ?_) | (with_reducible refine row_updN (by first | assumption | exact Ne.symm (by assumption) | (simp; omega)) ?_) | (with_reducible refine row_setO (by first | assumption | exact Ne.symm (by assumption) | (simp; omega)) ?_) | (with_reducible refine row_updO (by assumption) ?_))); try exact rfl), (by (repeat (first | (with_reducible refine row_plus ?_) | (with_reducible refine row_drew ?_) | (with_reducible exact row_allocN (by first | assumption | (simp; done) | (simp; omega))) | (with_reducible refine row_allocO ?_) | (with_reducible refine row_updN (by first | assumption | exact Ne.symm (by assumption) | (simp; omega)) ?_) | (with_reducible refine row_setO (by first | assumption | exact Ne.symm (by assumption) | (simp; omega)) ?_) | (with_reducible refine row_updO (by assumption) ?_))); try exact rfl), (by (repeat (first | (with_reducible refine row_plus ?_) | (with_reducible refine row_drew ?_) | (with_reducible exact row_allocN (by first | assumption | (simp; done) | (simp; omega))) | (with_reducible refine row_allocO ?_) | (with_reducible refine row_updN (by first | assumption | exact Ne.symm (by assumption) | (simp; omega)) ?_) | (with_reducible refine row_setO (by first | assumption | exact Ne.symm (by assumption) | (simp; omega)) ?_) | (with_reducible refine row_updO (by assumption) ?_))); try exact hOd)⟩
    repeat (first | (with_reducible refine Slot.plus ?_ _) | exact Slot.madeN (by first | (simp; done) | omega | (simp; omega)) (by first | (simp; done) | omega | (simp; omega)))
  case round =>
    obtain ⟨k, vo, rfl, hk, hs, hx, hr0, hr1, hro⟩ := hrel
    have hfl := filter_len xs n k hk
    generalize hys : (xs.take k).filter (fun x => x != n) = ys at hs hfl
    obtain ⟨a1, c1, rfl, hc1⟩ := hs.form
    have hnO : O ∉ (Value.slice a1 ys.length c1).blk := fun h => by have := (hs.blk_lt _ h).1; omega
    have hn0 : w.heap.size ∉ (Value.slice a1 ys.length c1).blk := fun h => by have := (hs.blk_lt _ h).1; omega
    have hn1 : w.heap.size + 1 ∉ (Value.slice a1 ys.length c1).blk := fun h => by have := (hs.blk_lt _ h).1; omega
    have HBL := hid (show ∀ x ∈ (Value.slice a1 ys.length c1).blk, w.heap.size ≤ x from fun x hx => by have := (hs.blk_lt _ hx).1; omega)
    have d0 : wr.cell? ⟨w.heap.size, 0, none⟩ = some (.int .i64 mac) := by rw [cell_row hr0]; rfl
    have d1 : wr.cell? ⟨w.heap.size, 1, none⟩ = some (.bool pr) := by rw [cell_row hr0]; rfl
    have d2 : wr.cell? ⟨w.heap.size, 2, none⟩ = some (.slice a xs.length cap) := by rw [cell_row hr0]; rfl
    have de0 : wr.cell? ⟨(w.heap.size + 1), 0, none⟩ = some (.int .i64 0) := by rw [cell_row hr1]; rfl
    have de1 : wr.cell? ⟨(w.heap.size + 1), 1, none⟩ = some (.bool false) := by rw [cell_row hr1]; rfl
    have de2 : wr.cell? ⟨(w.heap.size + 1), 2, none⟩ = some (.slice none 0 0) := by rw [cell_row hr1]; rfl
    have fe0 := frozen_row hr1 0
    have fe1 := frozen_row hr1 1
    have fe2 := frozen_row hr1 2
    have do0 : wr.cell? ⟨O, 0, none⟩ = some (.int .i64 mac) := by rw [cell_row hro]; rfl
    have do1 : wr.cell? ⟨O, 1, none⟩ = some (.bool pr) := by rw [cell_row hro]; rfl
    have do2 : wr.cell? ⟨O, 2, none⟩ = some (.slice a1 ys.length c1) := by rw [cell_row hro]; rfl
    have fo0 := frozen_row hro 0
    have fo1 := frozen_row hro 1
    have fo2 := frozen_row hro 2
    have lr0 := row_lt hr0
    have lr1 := row_lt hr1
    have lrO := row_lt hro
    have HR0 := hid hr0
    have HR1 := hid hr1
    have HO := hid hro
    have HX := hid hx
    have HS := hid hs
    have HYS := hid hys
    clear hr0 hr1 hro hx hs hys
    by_cases hlt : k < xs.length
    case neg =>
      obtain rfl : k = xs.length := by omega
      have hys := HYS.out
      rw [List.take_length] at hys
      go_wp2
      refine bodyPost_ret (v := _) (by simp [results, Try.results46, go_sem, de0, de1, de2] <;> rfl) rfl ?_
      rw [HD.out, HV.out, hys]
      exact ⟨_, _, rfl, ((Slot.ints (show Slot (O + 1) _ 3 1 _ ys.length _ from (by repeat (first | (with_reducible exact HS.out) | (with_reducible refine Slot.setLo ?_ (by first | (simp; done) | omega | (simp; omega)) _)))) (fun x hx => by rw [← hys] at hx; exact M4.out x (List.mem_filter.1 hx).1)).2).lower (by omega), (by repeat (first | (with_reducible exact HX.out) | (with_reducible refine Ex.plus ?_ _) | (with_reducible refine Ex.drew ?_) | (with_reducible refine Ex.alloc ?_ _) | (with_reducible refine Ex.upd1 ?_ (by first | assumption | omega | (simp; done) | (simp; omega))) | (with_reducible refine Ex.setCell ?_ (by first | assumption | omega | (simp; done) | (simp; omega)) _) | (with_reducible refine Ex.upd ?_ HBL.out)))⟩
    case pos =>
      obtain ⟨b, off, rfl, hc⟩ := M3.out k hlt
      have hbl : b < w.heap.size := World.block_lt_of_cell? _ _ hc
      replace hc := (HX.out.cell hbl).trans hc
      have hbl2 := World.block_lt_of_cell? _ _ hc
      obtain ⟨y, hy⟩ : ∃ y, y = xs[k] := ⟨_, rfl⟩
      rw [← hy] at hc
      have HY := hid hy.symm
      clear hy
      cases hne : (y != n)
      case false =>
        have HN := hid hne
        go_wp2
        go_roundw
        case rel =>
          refine ⟨k + 1, _, by go_num, by omega, ?_, (by repeat (first | (with_reducible exact HX.out) | (with_reducible refine Ex.plus ?_ _) | (with_reducible refine Ex.drew ?_) | (with_reducible refine Ex.alloc ?_ _) | (with_reducible refine Ex.upd1 ?_ (by first | assumption | omega | (simp; done) | (simp; omega))) | (with_reducible refine Ex.setCell ?_ (by first | assumption | omega | (simp; done) | (simp; omega)) _) | (with_reducible refine Ex.upd ?_ HBL.out))), (by (repeat (first | (with_reducible refine row_plus ?_) | (with_reducible refine row_drew ?_) | (with_reducible exact row_allocN (by first | assumption | (simp; done) | (simp; omega))) | (with_reducible refine row_allocO ?_) | (with_reducible refine row_updN (by first | assumption | exact Ne.symm (by assumption) | (simp; omega)) ?_) | (with_reducible refine row_setO (by first | assumption | exact Ne.symm (by assumption) | (simp; omega)) ?_) | (with_reducible refine row_updO (by assumption) ?_))); try exact HR0.out), (by (repeat (first | (with_reducible refine row_plus ?_) | (with_reducible refine row_drew ?_) | (with_reducible exact row_allocN (by first | assumption | (simp; done) | (simp; omega))) | (with_reducible refine row_allocO ?_) | (with_reducible refine row_updN (by first | assumption | exact Ne.symm (by assumption) | (simp; omega)) ?_) | (with_reducible refine row_setO (by first | assumption | exact Ne.symm (by assumption) | (simp; omega)) ?_) | (with_reducible refine row_updO (by assumption) ?_))); try exact HR1.out), (by (repeat (first | (with_reducible refine row_plus ?_) | (with_reducible refine row_drew ?_) | (with_reducible exact row_allocN (by first | assumption | (simp; done) | (simp; omega))) | (with_reducible refine row_allocO ?_) | (with_reducible refine row_updN (by first | assumption | exact Ne.symm (by assumption) | (simp; omega)) ?_) | (with_reducible refine row_setO (by first | assumption | exact Ne.symm (by assumption) | (simp; omega)) ?_) | (with_reducible refine row_updO (by assumption) ?_))); try exact HO.out)⟩
          · rw [filter_snoc hlt, HY.out, HN.out, if_neg (by simp), List.append_nil, HYS.out]; exact (by repeat (first | (with_reducible exact HS.out) | (with_reducible refine Slot.plus ?_ _) | (with_reducible refine Slot.alloc ?_ _) | (with_reducible refine Slot.drew ?_)))
        case measure => simp [intOf]; omega
      case true =>
        have HN := hid hne
        go_wp2_with fail
        refine wp_region_plan (fun w' => ∃ g, w' = World.plus _ g) (.early 0 (.early 1 (.early 2 (.early 3 (.forced 4 1 (.forced 5 1 (.forced 6 1 (.forced 7 1 (.forced 8 2 (.forced 9 2 (.forced 10 2 .done))))))))))) (⟨_, World.drew_is_plus _⟩) (by kernel_rfl) (by kernel_rfl) ?_
        first | refine wpPlan_skipE rfl rfl ?_ | (refine wpPlan_early rfl rfl ?_; intro K hK; go_big_quiet_op; go_big_quiet_on)
        first | refine wpPlan_skipE rfl rfl ?_ | (refine wpPlan_early rfl rfl ?_; intro K hK; go_big_quiet_op; go_big_quiet_on)
        first | refine wpPlan_skipE rfl rfl ?_ | (refine wpPlan_early rfl rfl ?_; intro K hK; go_big_quiet_op; go_big_quiet_on)
        first | refine wpPlan_skipE rfl rfl ?_ | (refine wpPlan_early rfl rfl ?_; intro K hK; go_big_quiet_op; go_big_quiet_on)
        refine wpPlan_forced ?_
        first | refine wpOne_skip rfl rfl ?_ | (refine wpOne_1 rfl rfl ?_; intro K hK; go_simp; (try go_simp); refine hK _ _ ?_ ?_; (focus (exact (show Ex _ _ from (by repeat (first | (with_reducible exact Ex.refl _) | (with_reducible apply Ex.drew) | (with_reducible apply Ex.plus_add) | (with_reducible apply Ex.plus_drew) | (with_reducible apply Ex.plus) | (with_reducible apply Ex.alloc) | (with_reducible refine Ex.upd1 ?_ (by first | (simp; done) | omega | (simp; omega))) | (with_reducible refine Ex.setCell ?_ (by first | (simp; done) | omega | (simp; omega)) _)))))); clear hK K)
        refine wpPlan_forced ?_
        first | refine wpOne_skip rfl rfl ?_ | (refine wpOne_1 rfl rfl ?_; intro K hK; go_simp; (try go_simp); refine hK _ _ ?_ ?_; (focus (exact (show Ex _ _ from (by repeat (first | (with_reducible exact Ex.refl _) | (with_reducible apply Ex.drew) | (with_reducible apply Ex.plus_add) | (with_reducible apply Ex.plus_drew) | (with_reducible apply Ex.plus) | (with_reducible apply Ex.alloc) | (with_reducible refine Ex.upd1 ?_ (by first | (simp; done) | omega | (simp; omega))) | (with_reducible refine Ex.setCell ?_ (by first | (simp; done) | omega | (simp; omega)) _)))))); clear hK K)
        refine wpPlan_forced ?_
        first | refine wpOne_skip rfl rfl ?_ | (refine wpOne_1 rfl rfl ?_; intro K hK; go_simp; (try go_simp); refine hK _ _ ?_ ?_; (focus (exact (show Ex _ _ from (by repeat (first | (with_reducible exact Ex.refl _) | (with_reducible apply Ex.drew) | (with_reducible apply Ex.plus_add) | (with_reducible apply Ex.plus_drew) | (with_reducible apply Ex.plus) | (with_reducible apply Ex.alloc) | (with_reducible refine Ex.upd1 ?_ (by first | (simp; done) | omega | (simp; omega))) | (with_reducible refine Ex.setCell ?_ (by first | (simp; done) | omega | (simp; omega)) _)))))); clear hK K)
        refine wpPlan_forced ?_
        first | refine wpOne_skip rfl rfl ?_ | (refine wpOne_1 rfl rfl ?_; intro K hK; go_simp; (try go_simp); refine hK _ _ ?_ ?_; (focus (exact (show Ex _ _ from (by repeat (first | (with_reducible exact Ex.refl _) | (with_reducible apply Ex.drew) | (with_reducible apply Ex.plus_add) | (with_reducible apply Ex.plus_drew) | (with_reducible apply Ex.plus) | (with_reducible apply Ex.alloc) | (with_reducible refine Ex.upd1 ?_ (by first | (simp; done) | omega | (simp; omega))) | (with_reducible refine Ex.setCell ?_ (by first | (simp; done) | omega | (simp; omega)) _)))))); clear hK K)
        refine wpPlan_forced ?_
        first | refine wpOne_skip rfl rfl ?_ | (refine wpOne_2 rfl rfl ?_; intro K hK; refine wp_app _ _ 33 33 rfl 3 (.int .i64 0) 1 8 Try.underlying33 info_int rfl (O + 1) (.slice a1 ys.length c1) ys.length (ys.map (Value.int .i64)) rfl (by repeat (first | (with_reducible exact HS.out) | (with_reducible refine Slot.plus ?_ _) | (with_reducible refine Slot.alloc ?_ _) | (with_reducible refine Slot.drew ?_))) _ 1 [.int .i64 y] rfl (Src.lone Try.underlying33 #[.int .i64 y] (by intro u hu; simp at hu; subst hu; rfl) _ (row_allocN (by first | (simp; done) | omega | (simp; omega)))) (by unfold maxLen; omega) (by omega) (by first | (simp; done) | omega | (simp; omega)) ?_; intro v' f g9 hs2 hb2; obtain ⟨a2, c2, rfl, hc2⟩ := hs2.form; (try go_simp); refine hK _ _ ?_; clear hK K)
        refine wpPlan_forced ?_
        first | refine wpOne_skip rfl rfl ?_ | (refine wpOne_2 rfl rfl ?_; intro K hK; go_simp; (try go_simp); refine hK _ _ ?_; clear hK K)
        refine wpPlan_forced ?_
        first | refine wpOne_skip rfl rfl ?_ | (refine wpOne_2 rfl rfl ?_; intro K hK; go_simp; (try go_simp); refine hK _ _ ?_; clear hK K)
        refine wpPlan_done ?_
        go_wp2
        go_roundw
        case rel =>
          refine ⟨k + 1, _, by go_num, by omega, ?_, (by repeat (first | (with_reducible exact HX.out) | (with_reducible refine Ex.plus ?_ _) | (with_reducible refine Ex.drew ?_) | (with_reducible refine Ex.alloc ?_ _) | (with_reducible refine Ex.upd1 ?_ (by first | assumption | omega | (simp; done) | (simp; omega))) | (with_reducible refine Ex.setCell ?_ (by first | assumption | omega | (simp; done) | (simp; omega)) _) | (with_reducible refine Ex.upd ?_ HBL.out))), (by (repeat (first | (with_reducible refine row_plus ?_) | (with_reducible refine row_drew ?_) | (with_reducible exact row_allocN (by first | assumption | (simp; done) | (simp; omega))) | (with_reducible refine row_allocO ?_) | (with_reducible refine row_updN (by first | assumption | exact Ne.symm (by assumption) | (simp; omega)) ?_) | (with_reducible refine row_setO (by first | assumption | exact Ne.symm (by assumption) | (simp; omega)) ?_) | (with_reducible refine row_updO (by assumption) ?_))); try exact HR0.out), (by (repeat (first | (with_reducible refine row_plus ?_) | (with_reducible refine row_drew ?_) | (with_reducible exact row_allocN (by first | assumption | (simp; done) | (simp; omega))) | (with_reducible refine row_allocO ?_) | (with_reducible refine row_updN (by first | assumption | exact Ne.symm (by assumption) | (simp; omega)) ?_) | (with_reducible refine row_setO (by first | assumption | exact Ne.symm (by assumption) | (simp; omega)) ?_) | (with_reducible refine row_updO (by assumption) ?_))); try exact HR1.out), (by (repeat (first | (with_reducible refine row_plus ?_) | (with_reducible refine row_drew ?_) | (with_reducible exact row_allocN (by first | assumption | (simp; done) | (simp; omega))) | (with_reducible refine row_allocO ?_) | (with_reducible refine row_updN (by first | assumption | exact Ne.symm (by assumption) | (simp; omega)) ?_) | (with_reducible refine row_setO (by first | assumption | exact Ne.symm (by assumption) | (simp; omega)) ?_) | (with_reducible refine row_updO (by assumption) ?_))); try exact (row_set3_2 HO.out))⟩
          · rw [filter_snoc hlt, HY.out, HN.out, if_pos rfl, HYS.out, List.length_append, List.map_append]
            exact hs2.agr (by repeat (first | (with_reducible exact Agr.refl _ _) | (with_reducible refine Agr.of_le (by first | (simp; done) | omega | (simp; omega))) | (with_reducible refine Agr.plus' (by first | (simp; done) | omega | (simp; omega)) ?_ _) | (with_reducible refine Agr.alloc' (by first | (simp; done) | omega | (simp; omega)) ?_ _) | (with_reducible refine Agr.upd' (by first | (simp; done) | omega | (simp; omega)) ?_ _ _) | (with_reducible apply Agr.drewL) | (with_reducible apply Agr.drewR) | (with_reducible refine Agr.setLoR ?_ (by first | (simp; done) | omega | (simp; omega)) _) | (with_reducible refine Agr.setLoL ?_ (by first | (simp; done) | omega | (simp; omega)) _) | (with_reducible refine Agr.plusR (by first | (simp; done) | omega | (simp; omega)) ?_ _) | (with_reducible refine Agr.allocR (by first | (simp; done) | omega | (simp; omega)) ?_ _)))
        case measure => simp [intOf]; omega

end Go.Proofs.Ytlpipllhbobfbaa
