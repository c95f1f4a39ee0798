/- AddVlan of both: the walks. -/
import Derived.Test.YtlpipllhbobfbaaRows
import Derived.Test.YtlpipllhbobfbaaAddV
import Derived.Test.YtlpipllhbobfbaaCut
namespace Go.Proofs.Ytlpipllhbobfbaa
open Go.RowKit
set_option linter.unusedVariables false
set_option linter.unusedSimpArgs false

def RetFiltC (w : World) (mac : Int) (pr : Bool) (ys : List Int) (ok : Bool) (e : Ending) (w' : World) : Prop :=
  ∃ a c, e = .returned (.tuple #[.agg #[.int .i64 mac, .bool pr, .slice a ys.length c], .bool ok]) ∧ Owns w.heap.size w' ys [.slice a ys.length c] ∧ Ex w w'
theorem retFilt {w0 w : World} {Is Js : List Asn} {ys : List Int} {v : Value} {mac : Int} {pr ok : Bool} (h : St w0 w Is) (t : Take Is (ownA ys [v]) Js) :
    RetFiltC w0 mac pr ys ok (.returned (.tuple #[.agg #[.int .i64 mac, .bool pr, v], .bool ok])) w := by
  obtain ⟨a, c, rfl⟩ := ownA.form h t
  exact ⟨a, c, rfl, h.owns t, h.ex⟩

theorem addOrd_add (v : Value) (xs : List Int) (n : Int) (w : World) (k1 : Holds w xs [v]) (hl : xs.length ≤ 1048576) (hn : i64ok n) (hlo : ∀ i (h : i < xs.length), i < addIx xs n → xs[i] ≤ n) (hat : ∀ h : addIx xs n < xs.length, n < xs[addIx xs n]) :
    Calls Try.prog 92 #[v, .int .i64 n] w (RetSl w (addL xs n)) := addOrdered_any v xs (addIx xs n) n w k1 hl hn (addIx_le _ _) hlo hat

set_option maxRecDepth 100000 in
set_option maxHeartbeats 4000000 in
theorem addVlan_any (mac : Int) (pr : Bool) (v : Value) (xs : List Int) (n : Int) (w : World) (k1 : Holds w xs [v]) (hl : xs.length ≤ 1048576) (hn : i64ok n) :
    Calls Try.prog 55 #[.agg #[.int .i64 mac, .bool pr, v], .int .i64 n] w (RetFiltC w mac pr (addV mac xs n) (addB mac xs n)) := by
  obtain ⟨a, cap, hv, m1, m2, m3, m4⟩ := k1.ints
  simp only [List.cons.injEq, and_true] at hv
  subst hv
  unfold maxLen at m2
  have M4 := hid m4
  clear m3 m4
  have HN := hid hn
  clear hn
  cases q1 : filterOkB mac xs
  case false =>
    have HK := hid (show addB mac xs n = false by simp [addB, q1])
    have HV := hid (show addV mac xs n = xs by simp [addV, addB, q1])
    have H1 := hid q1
    clear q1
    have HS := St.start w
    go_enter Try.func55, Try.ntmps55
    go_wp2_with (first
          | (go_at_call 89; (with_reducible refine (copyFilter_any mac pr _ xs _ (k1.ex HS.ex) (by omega)).mono ?_); rintro e w' ⟨a1, c1, rfl, ho, hx⟩; replace HS := HS.own ho hx; clear ho hx)
          | (go_at_call 83; (first | (with_reducible refine (filterOk_v mac _ _ xs _ (k1.ex HS.ex) H1.out).mono ?_) | (with_reducible refine (filterOk_v mac _ _ (addL xs n) _ (HS.holds (by repeat (first | exact Take.head | apply Take.tail))) H3.out).mono ?_)); rintro e w' ⟨rfl, hx⟩; replace HS := HS.grow hx; clear hx)
          | (go_at_call 84; (with_reducible refine (hasInt_v _ xs n _ (k1.ex HS.ex) H2.out).mono ?_); rintro e w' ⟨rfl, rfl⟩)
          | (go_at_call 92; (with_reducible refine (addOrd_add _ xs n _ (k1.ex HS.ex) hl HN.out HLO.out HAT.out).mono ?_); rintro e w' ⟨a2, c2, rfl, ho, hx⟩; replace HS := HS.own ho hx; clear ho hx)
          | (refine wpList_box_st (o := ⟨some 2, .box _ _, _, _, _, _⟩) rfl _ _ rfl (v := .agg (List.toArray _)) rfl HS ?_; clear HS; intro w2 b2 hb2 HS; simp only [Value.cells] at HS)
          | (refine wpList_box_st (o := ⟨some 2, .box _ _, _, _, _, _⟩) rfl _ _ rfl (v := .agg _) rfl HS ?_; clear HS; intro w2 b2 hb2 HS; simp only [Value.cells] at HS)
          | (refine wpList_alloc_st (o := ⟨some 4, .alloc _, _, _, _, _⟩) rfl _ rfl zc_impl_Filter HS ?_; clear HS; intro w4 b4 hb4 HS)
          | (refine wpList_loadA_st (o := ⟨some 7, .load _ _, _, _, _, _⟩) rfl _ _ rfl rfl HS (by repeat (first | exact Take.head | apply Take.tail)) ag_impl_Filter (by simp only [List.drop_succ_cons, List.drop_zero, List.take_succ_cons, List.take_zero, List.take_nil]; rfl) rfl ?_)
          | (refine wpList_alloc_st (o := ⟨some 6, .alloc _, _, _, _, _⟩) rfl _ rfl zc_impl_Filter HS ?_; clear HS; intro w6 b6 hb6 HS)
          | (refine wpList_store_st (o := ⟨none, .store _ (.tmp 6) _, _, _, _, _⟩) rfl _ _ _ rfl rfl (v := .agg (List.toArray _)) rfl HS (by repeat (first | exact Take.head | apply Take.tail)) sz_impl_Filter (by simp only [Value.cells]; rfl) (by rfl) (by rfl) (by simp) ?_ rfl; clear HS; intro w1_3 hz1_3 HS; simp only [nicL, Value.cells, List.append_nil] at HS)
          | (refine wpList_store_st (o := ⟨none, .store _ (.tmp 6) _, _, _, _, _⟩) rfl _ _ _ rfl rfl (v := .agg _) rfl HS (by repeat (first | exact Take.head | apply Take.tail)) sz_impl_Filter (by simp only [Value.cells]; rfl) (by rfl) (by rfl) (by simp) ?_ rfl; clear HS; intro w1_3 hz1_3 HS; simp only [nicL, Value.cells, List.append_nil] at HS)
          | (refine wpList_loadA_st (o := ⟨some 9, .load _ _, _, _, _, _⟩) rfl _ _ rfl rfl HS (by repeat (first | exact Take.head | apply Take.tail)) ag_impl_Filter (by simp only [List.drop_succ_cons, List.drop_zero, List.take_succ_cons, List.take_zero, List.take_nil]; rfl) rfl ?_)
          | (refine wpList_loadS_st (o := ⟨some 14, .load _ _, _, _, _, _⟩) rfl _ _ rfl rfl HS (by repeat (first | exact Take.head | apply Take.tail)) sc_Sint (by rfl) ?_)
          | (refine wpList_loadA_st (o := ⟨some 18, .load _ _, _, _, _, _⟩) rfl _ _ rfl rfl HS (by repeat (first | exact Take.head | apply Take.tail)) ag_impl_Filter (by simp only [List.drop_succ_cons, List.drop_zero, List.take_succ_cons, List.take_zero, List.take_nil]; rfl) rfl ?_)
          | (refine wpList_store_st (o := ⟨none, .store _ (.tmp 4) _, _, _, _, _⟩) rfl _ _ _ rfl rfl (v := .agg (List.toArray _)) rfl HS (by repeat (first | exact Take.head | apply Take.tail)) sz_impl_Filter (by simp only [Value.cells]; rfl) (by rfl) (by rfl) (by simp) ?_ rfl; clear HS; intro w3_1 hz3_1 HS; simp only [nicL, Value.cells, List.append_nil] at HS)
          | (refine wpList_store_st (o := ⟨none, .store _ (.tmp 4) _, _, _, _, _⟩) rfl _ _ _ rfl rfl (v := .agg _) rfl HS (by repeat (first | exact Take.head | apply Take.tail)) sz_impl_Filter (by simp only [Value.cells]; rfl) (by rfl) (by rfl) (by simp) ?_ rfl; clear HS; intro w3_1 hz3_1 HS; simp only [nicL, Value.cells, List.append_nil] at HS)
          | (refine wpList_loadS_st (o := ⟨some 20, .load _ _, _, _, _, _⟩) rfl _ _ rfl rfl HS (by repeat (first | exact Take.head | apply Take.tail)) sc_Sint (by rfl) ?_)
          | (refine wpList_store_st (o := ⟨none, .store _ (.tmp 23) _, _, _, _, _⟩) rfl _ _ _ rfl rfl (v := .slice _ _ _) rfl HS (by repeat (first | exact Take.head | apply Take.tail)) sz_Sint (by simp only [Value.cells]; rfl) (by rfl) (by rfl) (by simp) ?_ rfl; clear HS; intro w4_5 hz4_5 HS; simp only [nicL, Value.cells, List.append_nil] at HS)
          | (refine wpList_store_st (o := ⟨none, .store _ (.tmp 23) _, _, _, _, _⟩) rfl _ _ _ rfl rfl (v := _) rfl HS (by repeat (first | exact Take.head | apply Take.tail)) sz_Sint (by simp only [Value.cells]; rfl) (by rfl) (by rfl) (by simp) ?_ rfl; clear HS; intro w4_5 hz4_5 HS; simp only [nicL, Value.cells, List.append_nil] at HS)
          | (refine wpList_loadA_st (o := ⟨some 24, .load _ _, _, _, _, _⟩) rfl _ _ rfl rfl HS (by repeat (first | exact Take.head | apply Take.tail)) ag_impl_Filter (by simp only [List.drop_succ_cons, List.drop_zero, List.take_succ_cons, List.take_zero, List.take_nil]; rfl) rfl ?_)
          | (refine wpList_loadA_st (o := ⟨some 27, .load _ _, _, _, _, _⟩) rfl _ _ rfl rfl HS (by repeat (first | exact Take.head | apply Take.tail)) ag_impl_Filter (by simp only [List.drop_succ_cons, List.drop_zero, List.take_succ_cons, List.take_zero, List.take_nil]; rfl) rfl ?_)
          | (refine wpList_store_st (o := ⟨none, .store _ (.tmp 4) _, _, _, _, _⟩) rfl _ _ _ rfl rfl (v := .agg (List.toArray _)) rfl HS (by repeat (first | exact Take.head | apply Take.tail)) sz_impl_Filter (by simp only [Value.cells]; rfl) (by rfl) (by rfl) (by simp) ?_ rfl; clear HS; intro w6_2 hz6_2 HS; simp only [nicL, Value.cells, List.append_nil] at HS)
          | (refine wpList_store_st (o := ⟨none, .store _ (.tmp 4) _, _, _, _, _⟩) rfl _ _ _ rfl rfl (v := .agg _) rfl HS (by repeat (first | exact Take.head | apply Take.tail)) sz_impl_Filter (by simp only [Value.cells]; rfl) (by rfl) (by rfl) (by simp) ?_ rfl; clear HS; intro w6_2 hz6_2 HS; simp only [nicL, Value.cells, List.append_nil] at HS)
          | (refine wpList_loadA_st (o := ⟨some 29, .load _ _, _, _, _, _⟩) rfl _ _ rfl rfl HS (by repeat (first | exact Take.head | apply Take.tail)) ag_impl_Filter (by simp only [List.drop_succ_cons, List.drop_zero, List.take_succ_cons, List.take_zero, List.take_nil]; rfl) rfl ?_)
          | (refine wpList_store_st (o := ⟨none, .store _ (.tmp 4) _, _, _, _, _⟩) rfl _ _ _ rfl rfl (v := .agg (List.toArray _)) rfl HS (by repeat (first | exact Take.head | apply Take.tail)) sz_impl_Filter (by simp only [Value.cells]; rfl) (by rfl) (by rfl) (by simp) ?_ rfl; clear HS; intro w7_1 hz7_1 HS; simp only [nicL, Value.cells, List.append_nil] at HS)
          | (refine wpList_store_st (o := ⟨none, .store _ (.tmp 4) _, _, _, _, _⟩) rfl _ _ _ rfl rfl (v := .agg _) rfl HS (by repeat (first | exact Take.head | apply Take.tail)) sz_impl_Filter (by simp only [Value.cells]; rfl) (by rfl) (by rfl) (by simp) ?_ rfl; clear HS; intro w7_1 hz7_1 HS; simp only [nicL, Value.cells, List.append_nil] at HS))
    refine bodyPost_rets (by rfl) (RVs.cell (by rfl) HS (by repeat (first | exact Take.head | apply Take.tail)) ag_impl_Filter (by rfl) (RVs.tmp (by rfl) RVs.nil)) (by simp) (by rfl) ?_
    rw [HK.out, HV.out]
    exact retFilt HS (by repeat (first | exact Take.head | apply Take.tail))
  case true =>
  have H1 := hid q1
  cases q2 : hasB xs n
  case true =>
    have q3 := add_has q1 q2
    have HK := hid (show addB mac xs n = false by simp [addB, q3])
    have HV := hid (show addV mac xs n = xs by simp [addV, addB, q3])
    have H2 := hid q2
    clear q1 q2 q3
    have HS := St.start w
    go_enter Try.func55, Try.ntmps55
    go_wp2_with (first
          | (go_at_call 89; (with_reducible refine (copyFilter_any mac pr _ xs _ (k1.ex HS.ex) (by omega)).mono ?_); rintro e w' ⟨a1, c1, rfl, ho, hx⟩; replace HS := HS.own ho hx; clear ho hx)
          | (go_at_call 83; (first | (with_reducible refine (filterOk_v mac _ _ xs _ (k1.ex HS.ex) H1.out).mono ?_) | (with_reducible refine (filterOk_v mac _ _ (addL xs n) _ (HS.holds (by repeat (first | exact Take.head | apply Take.tail))) H3.out).mono ?_)); rintro e w' ⟨rfl, hx⟩; replace HS := HS.grow hx; clear hx)
          | (go_at_call 84; (with_reducible refine (hasInt_v _ xs n _ (k1.ex HS.ex) H2.out).mono ?_); rintro e w' ⟨rfl, rfl⟩)
          | (go_at_call 92; (with_reducible refine (addOrd_add _ xs n _ (k1.ex HS.ex) hl HN.out HLO.out HAT.out).mono ?_); rintro e w' ⟨a2, c2, rfl, ho, hx⟩; replace HS := HS.own ho hx; clear ho hx)
          | (refine wpList_box_st (o := ⟨some 2, .box _ _, _, _, _, _⟩) rfl _ _ rfl (v := .agg (List.toArray _)) rfl HS ?_; clear HS; intro w2 b2 hb2 HS; simp only [Value.cells] at HS)
          | (refine wpList_box_st (o := ⟨some 2, .box _ _, _, _, _, _⟩) rfl _ _ rfl (v := .agg _) rfl HS ?_; clear HS; intro w2 b2 hb2 HS; simp only [Value.cells] at HS)
          | (refine wpList_alloc_st (o := ⟨some 4, .alloc _, _, _, _, _⟩) rfl _ rfl zc_impl_Filter HS ?_; clear HS; intro w4 b4 hb4 HS)
          | (refine wpList_loadA_st (o := ⟨some 7, .load _ _, _, _, _, _⟩) rfl _ _ rfl rfl HS (by repeat (first | exact Take.head | apply Take.tail)) ag_impl_Filter (by simp only [List.drop_succ_cons, List.drop_zero, List.take_succ_cons, List.take_zero, List.take_nil]; rfl) rfl ?_)
          | (refine wpList_alloc_st (o := ⟨some 6, .alloc _, _, _, _, _⟩) rfl _ rfl zc_impl_Filter HS ?_; clear HS; intro w6 b6 hb6 HS)
          | (refine wpList_store_st (o := ⟨none, .store _ (.tmp 6) _, _, _, _, _⟩) rfl _ _ _ rfl rfl (v := .agg (List.toArray _)) rfl HS (by repeat (first | exact Take.head | apply Take.tail)) sz_impl_Filter (by simp only [Value.cells]; rfl) (by rfl) (by rfl) (by simp) ?_ rfl; clear HS; intro w1_3 hz1_3 HS; simp only [nicL, Value.cells, List.append_nil] at HS)
          | (refine wpList_store_st (o := ⟨none, .store _ (.tmp 6) _, _, _, _, _⟩) rfl _ _ _ rfl rfl (v := .agg _) rfl HS (by repeat (first | exact Take.head | apply Take.tail)) sz_impl_Filter (by simp only [Value.cells]; rfl) (by rfl) (by rfl) (by simp) ?_ rfl; clear HS; intro w1_3 hz1_3 HS; simp only [nicL, Value.cells, List.append_nil] at HS)
          | (refine wpList_loadA_st (o := ⟨some 9, .load _ _, _, _, _, _⟩) rfl _ _ rfl rfl HS (by repeat (first | exact Take.head | apply Take.tail)) ag_impl_Filter (by simp only [List.drop_succ_cons, List.drop_zero, List.take_succ_cons, List.take_zero, List.take_nil]; rfl) rfl ?_)
          | (refine wpList_loadS_st (o := ⟨some 14, .load _ _, _, _, _, _⟩) rfl _ _ rfl rfl HS (by repeat (first | exact Take.head | apply Take.tail)) sc_Sint (by rfl) ?_)
          | (refine wpList_loadA_st (o := ⟨some 18, .load _ _, _, _, _, _⟩) rfl _ _ rfl rfl HS (by repeat (first | exact Take.head | apply Take.tail)) ag_impl_Filter (by simp only [List.drop_succ_cons, List.drop_zero, List.take_succ_cons, List.take_zero, List.take_nil]; rfl) rfl ?_)
          | (refine wpList_store_st (o := ⟨none, .store _ (.tmp 4) _, _, _, _, _⟩) rfl _ _ _ rfl rfl (v := .agg (List.toArray _)) rfl HS (by repeat (first | exact Take.head | apply Take.tail)) sz_impl_Filter (by simp only [Value.cells]; rfl) (by rfl) (by rfl) (by simp) ?_ rfl; clear HS; intro w3_1 hz3_1 HS; simp only [nicL, Value.cells, List.append_nil] at HS)
          | (refine wpList_store_st (o := ⟨none, .store _ (.tmp 4) _, _, _, _, _⟩) rfl _ _ _ rfl rfl (v := .agg _) rfl HS (by repeat (first | exact Take.head | apply Take.tail)) sz_impl_Filter (by simp only [Value.cells]; rfl) (by rfl) (by rfl) (by simp) ?_ rfl; clear HS; intro w3_1 hz3_1 HS; simp only [nicL, Value.cells, List.append_nil] at HS)
          | (refine wpList_loadS_st (o := ⟨some 20, .load _ _, _, _, _, _⟩) rfl _ _ rfl rfl HS (by repeat (first | exact Take.head | apply Take.tail)) sc_Sint (by rfl) ?_)
          | (refine wpList_store_st (o := ⟨none, .store _ (.tmp 23) _, _, _, _, _⟩) rfl _ _ _ rfl rfl (v := .slice _ _ _) rfl HS (by repeat (first | exact Take.head | apply Take.tail)) sz_Sint (by simp only [Value.cells]; rfl) (by rfl) (by rfl) (by simp) ?_ rfl; clear HS; intro w4_5 hz4_5 HS; simp only [nicL, Value.cells, List.append_nil] at HS)
          | (refine wpList_store_st (o := ⟨none, .store _ (.tmp 23) _, _, _, _, _⟩) rfl _ _ _ rfl rfl (v := _) rfl HS (by repeat (first | exact Take.head | apply Take.tail)) sz_Sint (by simp only [Value.cells]; rfl) (by rfl) (by rfl) (by simp) ?_ rfl; clear HS; intro w4_5 hz4_5 HS; simp only [nicL, Value.cells, List.append_nil] at HS)
          | (refine wpList_loadA_st (o := ⟨some 24, .load _ _, _, _, _, _⟩) rfl _ _ rfl rfl HS (by repeat (first | exact Take.head | apply Take.tail)) ag_impl_Filter (by simp only [List.drop_succ_cons, List.drop_zero, List.take_succ_cons, List.take_zero, List.take_nil]; rfl) rfl ?_)
          | (refine wpList_loadA_st (o := ⟨some 27, .load _ _, _, _, _, _⟩) rfl _ _ rfl rfl HS (by repeat (first | exact Take.head | apply Take.tail)) ag_impl_Filter (by simp only [List.drop_succ_cons, List.drop_zero, List.take_succ_cons, List.take_zero, List.take_nil]; rfl) rfl ?_)
          | (refine wpList_store_st (o := ⟨none, .store _ (.tmp 4) _, _, _, _, _⟩) rfl _ _ _ rfl rfl (v := .agg (List.toArray _)) rfl HS (by repeat (first | exact Take.head | apply Take.tail)) sz_impl_Filter (by simp only [Value.cells]; rfl) (by rfl) (by rfl) (by simp) ?_ rfl; clear HS; intro w6_2 hz6_2 HS; simp only [nicL, Value.cells, List.append_nil] at HS)
          | (refine wpList_store_st (o := ⟨none, .store _ (.tmp 4) _, _, _, _, _⟩) rfl _ _ _ rfl rfl (v := .agg _) rfl HS (by repeat (first | exact Take.head | apply Take.tail)) sz_impl_Filter (by simp only [Value.cells]; rfl) (by rfl) (by rfl) (by simp) ?_ rfl; clear HS; intro w6_2 hz6_2 HS; simp only [nicL, Value.cells, List.append_nil] at HS)
          | (refine wpList_loadA_st (o := ⟨some 29, .load _ _, _, _, _, _⟩) rfl _ _ rfl rfl HS (by repeat (first | exact Take.head | apply Take.tail)) ag_impl_Filter (by simp only [List.drop_succ_cons, List.drop_zero, List.take_succ_cons, List.take_zero, List.take_nil]; rfl) rfl ?_)
          | (refine wpList_store_st (o := ⟨none, .store _ (.tmp 4) _, _, _, _, _⟩) rfl _ _ _ rfl rfl (v := .agg (List.toArray _)) rfl HS (by repeat (first | exact Take.head | apply Take.tail)) sz_impl_Filter (by simp only [Value.cells]; rfl) (by rfl) (by rfl) (by simp) ?_ rfl; clear HS; intro w7_1 hz7_1 HS; simp only [nicL, Value.cells, List.append_nil] at HS)
          | (refine wpList_store_st (o := ⟨none, .store _ (.tmp 4) _, _, _, _, _⟩) rfl _ _ _ rfl rfl (v := .agg _) rfl HS (by repeat (first | exact Take.head | apply Take.tail)) sz_impl_Filter (by simp only [Value.cells]; rfl) (by rfl) (by rfl) (by simp) ?_ rfl; clear HS; intro w7_1 hz7_1 HS; simp only [nicL, Value.cells, List.append_nil] at HS))
    refine bodyPost_rets (by rfl) (RVs.cell (by rfl) HS (by repeat (first | exact Take.head | apply Take.tail)) ag_impl_Filter (by rfl) (RVs.tmp (by rfl) RVs.nil)) (by simp) (by rfl) ?_
    rw [HK.out, HV.out]
    exact retFilt HS (by repeat (first | exact Take.head | apply Take.tail))
  case false =>
  have H2 := hid q2
  have HLO := hid (show ∀ i (h : i < xs.length), i < addIx xs n → xs[i] ≤ n from fun i h hi => Int.le_of_lt (addIx_lo xs n i h hi))
  have HAT := hid (show ∀ h : addIx xs n < xs.length, n < xs[addIx xs n] from fun h => by
    have h1 := addIx_at xs n h
    have h2 : xs[addIx xs n] ≠ n := fun e => by rw [hasB_at h e] at q2; cases q2
    omega)
  cases q3 : filterOkB mac (addL xs n)
  case false =>
    have HK := hid (show addB mac xs n = false by simp [addB, q3])
    have HV := hid (show addV mac xs n = xs by simp [addV, addB, q3])
    have H3 := hid q3
    clear q1 q2 q3
    have HS := St.start w
    go_enter Try.func55, Try.ntmps55
    go_wp2_with (first
          | (go_at_call 89; (with_reducible refine (copyFilter_any mac pr _ xs _ (k1.ex HS.ex) (by omega)).mono ?_); rintro e w' ⟨a1, c1, rfl, ho, hx⟩; replace HS := HS.own ho hx; clear ho hx)
          | (go_at_call 83; (first | (with_reducible refine (filterOk_v mac _ _ xs _ (k1.ex HS.ex) H1.out).mono ?_) | (with_reducible refine (filterOk_v mac _ _ (addL xs n) _ (HS.holds (by repeat (first | exact Take.head | apply Take.tail))) H3.out).mono ?_)); rintro e w' ⟨rfl, hx⟩; replace HS := HS.grow hx; clear hx)
          | (go_at_call 84; (with_reducible refine (hasInt_v _ xs n _ (k1.ex HS.ex) H2.out).mono ?_); rintro e w' ⟨rfl, rfl⟩)
          | (go_at_call 92; (with_reducible refine (addOrd_add _ xs n _ (k1.ex HS.ex) hl HN.out HLO.out HAT.out).mono ?_); rintro e w' ⟨a2, c2, rfl, ho, hx⟩; replace HS := HS.own ho hx; clear ho hx)
          | (refine wpList_box_st (o := ⟨some 2, .box _ _, _, _, _, _⟩) rfl _ _ rfl (v := .agg (List.toArray _)) rfl HS ?_; clear HS; intro w2 b2 hb2 HS; simp only [Value.cells] at HS)
          | (refine wpList_box_st (o := ⟨some 2, .box _ _, _, _, _, _⟩) rfl _ _ rfl (v := .agg _) rfl HS ?_; clear HS; intro w2 b2 hb2 HS; simp only [Value.cells] at HS)
          | (refine wpList_alloc_st (o := ⟨some 4, .alloc _, _, _, _, _⟩) rfl _ rfl zc_impl_Filter HS ?_; clear HS; intro w4 b4 hb4 HS)
          | (refine wpList_loadA_st (o := ⟨some 7, .load _ _, _, _, _, _⟩) rfl _ _ rfl rfl HS (by repeat (first | exact Take.head | apply Take.tail)) ag_impl_Filter (by simp only [List.drop_succ_cons, List.drop_zero, List.take_succ_cons, List.take_zero, List.take_nil]; rfl) rfl ?_)
          | (refine wpList_alloc_st (o := ⟨some 6, .alloc _, _, _, _, _⟩) rfl _ rfl zc_impl_Filter HS ?_; clear HS; intro w6 b6 hb6 HS)
          | (refine wpList_store_st (o := ⟨none, .store _ (.tmp 6) _, _, _, _, _⟩) rfl _ _ _ rfl rfl (v := .agg (List.toArray _)) rfl HS (by repeat (first | exact Take.head | apply Take.tail)) sz_impl_Filter (by simp only [Value.cells]; rfl) (by rfl) (by rfl) (by simp) ?_ rfl; clear HS; intro w1_3 hz1_3 HS; simp only [nicL, Value.cells, List.append_nil] at HS)
          | (refine wpList_store_st (o := ⟨none, .store _ (.tmp 6) _, _, _, _, _⟩) rfl _ _ _ rfl rfl (v := .agg _) rfl HS (by repeat (first | exact Take.head | apply Take.tail)) sz_impl_Filter (by simp only [Value.cells]; rfl) (by rfl) (by rfl) (by simp) ?_ rfl; clear HS; intro w1_3 hz1_3 HS; simp only [nicL, Value.cells, List.append_nil] at HS)
          | (refine wpList_loadA_st (o := ⟨some 9, .load _ _, _, _, _, _⟩) rfl _ _ rfl rfl HS (by repeat (first | exact Take.head | apply Take.tail)) ag_impl_Filter (by simp only [List.drop_succ_cons, List.drop_zero, List.take_succ_cons, List.take_zero, List.take_nil]; rfl) rfl ?_)
          | (refine wpList_loadS_st (o := ⟨some 14, .load _ _, _, _, _, _⟩) rfl _ _ rfl rfl HS (by repeat (first | exact Take.head | apply Take.tail)) sc_Sint (by rfl) ?_)
          | (refine wpList_loadA_st (o := ⟨some 18, .load _ _, _, _, _, _⟩) rfl _ _ rfl rfl HS (by repeat (first | exact Take.head | apply Take.tail)) ag_impl_Filter (by simp only [List.drop_succ_cons, List.drop_zero, List.take_succ_cons, List.take_zero, List.take_nil]; rfl) rfl ?_)
          | (refine wpList_store_st (o := ⟨none, .store _ (.tmp 4) _, _, _, _, _⟩) rfl _ _ _ rfl rfl (v := .agg (List.toArray _)) rfl HS (by repeat (first | exact Take.head | apply Take.tail)) sz_impl_Filter (by simp only [Value.cells]; rfl) (by rfl) (by rfl) (by simp) ?_ rfl; clear HS; intro w3_1 hz3_1 HS; simp only [nicL, Value.cells, List.append_nil] at HS)
          | (refine wpList_store_st (o := ⟨none, .store _ (.tmp 4) _, _, _, _, _⟩) rfl _ _ _ rfl rfl (v := .agg _) rfl HS (by repeat (first | exact Take.head | apply Take.tail)) sz_impl_Filter (by simp only [Value.cells]; rfl) (by rfl) (by rfl) (by simp) ?_ rfl; clear HS; intro w3_1 hz3_1 HS; simp only [nicL, Value.cells, List.append_nil] at HS)
          | (refine wpList_loadS_st (o := ⟨some 20, .load _ _, _, _, _, _⟩) rfl _ _ rfl rfl HS (by repeat (first | exact Take.head | apply Take.tail)) sc_Sint (by rfl) ?_)
          | (refine wpList_store_st (o := ⟨none, .store _ (.tmp 23) _, _, _, _, _⟩) rfl _ _ _ rfl rfl (v := .slice _ _ _) rfl HS (by repeat (first | exact Take.head | apply Take.tail)) sz_Sint (by simp only [Value.cells]; rfl) (by rfl) (by rfl) (by simp) ?_ rfl; clear HS; intro w4_5 hz4_5 HS; simp only [nicL, Value.cells, List.append_nil] at HS)
          | (refine wpList_store_st (o := ⟨none, .store _ (.tmp 23) _, _, _, _, _⟩) rfl _ _ _ rfl rfl (v := _) rfl HS (by repeat (first | exact Take.head | apply Take.tail)) sz_Sint (by simp only [Value.cells]; rfl) (by rfl) (by rfl) (by simp) ?_ rfl; clear HS; intro w4_5 hz4_5 HS; simp only [nicL, Value.cells, List.append_nil] at HS)
          | (refine wpList_loadA_st (o := ⟨some 24, .load _ _, _, _, _, _⟩) rfl _ _ rfl rfl HS (by repeat (first | exact Take.head | apply Take.tail)) ag_impl_Filter (by simp only [List.drop_succ_cons, List.drop_zero, List.take_succ_cons, List.take_zero, List.take_nil]; rfl) rfl ?_)
          | (refine wpList_loadA_st (o := ⟨some 27, .load _ _, _, _, _, _⟩) rfl _ _ rfl rfl HS (by repeat (first | exact Take.head | apply Take.tail)) ag_impl_Filter (by simp only [List.drop_succ_cons, List.drop_zero, List.take_succ_cons, List.take_zero, List.take_nil]; rfl) rfl ?_)
          | (refine wpList_store_st (o := ⟨none, .store _ (.tmp 4) _, _, _, _, _⟩) rfl _ _ _ rfl rfl (v := .agg (List.toArray _)) rfl HS (by repeat (first | exact Take.head | apply Take.tail)) sz_impl_Filter (by simp only [Value.cells]; rfl) (by rfl) (by rfl) (by simp) ?_ rfl; clear HS; intro w6_2 hz6_2 HS; simp only [nicL, Value.cells, List.append_nil] at HS)
          | (refine wpList_store_st (o := ⟨none, .store _ (.tmp 4) _, _, _, _, _⟩) rfl _ _ _ rfl rfl (v := .agg _) rfl HS (by repeat (first | exact Take.head | apply Take.tail)) sz_impl_Filter (by simp only [Value.cells]; rfl) (by rfl) (by rfl) (by simp) ?_ rfl; clear HS; intro w6_2 hz6_2 HS; simp only [nicL, Value.cells, List.append_nil] at HS)
          | (refine wpList_loadA_st (o := ⟨some 29, .load _ _, _, _, _, _⟩) rfl _ _ rfl rfl HS (by repeat (first | exact Take.head | apply Take.tail)) ag_impl_Filter (by simp only [List.drop_succ_cons, List.drop_zero, List.take_succ_cons, List.take_zero, List.take_nil]; rfl) rfl ?_)
          | (refine wpList_store_st (o := ⟨none, .store _ (.tmp 4) _, _, _, _, _⟩) rfl _ _ _ rfl rfl (v := .agg (List.toArray _)) rfl HS (by repeat (first | exact Take.head | apply Take.tail)) sz_impl_Filter (by simp only [Value.cells]; rfl) (by rfl) (by rfl) (by simp) ?_ rfl; clear HS; intro w7_1 hz7_1 HS; simp only [nicL, Value.cells, List.append_nil] at HS)
          | (refine wpList_store_st (o := ⟨none, .store _ (.tmp 4) _, _, _, _, _⟩) rfl _ _ _ rfl rfl (v := .agg _) rfl HS (by repeat (first | exact Take.head | apply Take.tail)) sz_impl_Filter (by simp only [Value.cells]; rfl) (by rfl) (by rfl) (by simp) ?_ rfl; clear HS; intro w7_1 hz7_1 HS; simp only [nicL, Value.cells, List.append_nil] at HS))
    refine bodyPost_rets (by rfl) (RVs.cell (by rfl) HS (by repeat (first | exact Take.head | apply Take.tail)) ag_impl_Filter (by rfl) (RVs.tmp (by rfl) RVs.nil)) (by simp) (by rfl) ?_
    rw [HK.out, HV.out]
    exact retFilt HS (by repeat (first | exact Take.head | apply Take.tail))
  case true =>
    have HK := hid (show addB mac xs n = true by simp [addB, q1, q3])
    have HV := hid (show addV mac xs n = addL xs n by simp [addV, addB, q1, q3])
    have H3 := hid q3
    clear q1 q2 q3
    have HS := St.start w
    go_enter Try.func55, Try.ntmps55
    go_wp2_with (first
          | (go_at_call 89; (with_reducible refine (copyFilter_any mac pr _ xs _ (k1.ex HS.ex) (by omega)).mono ?_); rintro e w' ⟨a1, c1, rfl, ho, hx⟩; replace HS := HS.own ho hx; clear ho hx)
          | (go_at_call 83; (first | (with_reducible refine (filterOk_v mac _ _ xs _ (k1.ex HS.ex) H1.out).mono ?_) | (with_reducible refine (filterOk_v mac _ _ (addL xs n) _ (HS.holds (by repeat (first | exact Take.head | apply Take.tail))) H3.out).mono ?_)); rintro e w' ⟨rfl, hx⟩; replace HS := HS.grow hx; clear hx)
          | (go_at_call 84; (with_reducible refine (hasInt_v _ xs n _ (k1.ex HS.ex) H2.out).mono ?_); rintro e w' ⟨rfl, rfl⟩)
          | (go_at_call 92; (with_reducible refine (addOrd_add _ xs n _ (k1.ex HS.ex) hl HN.out HLO.out HAT.out).mono ?_); rintro e w' ⟨a2, c2, rfl, ho, hx⟩; replace HS := HS.own ho hx; clear ho hx)
          | (refine wpList_box_st (o := ⟨some 2, .box _ _, _, _, _, _⟩) rfl _ _ rfl (v := .agg (List.toArray _)) rfl HS ?_; clear HS; intro w2 b2 hb2 HS; simp only [Value.cells] at HS)
          | (refine wpList_box_st (o := ⟨some 2, .box _ _, _, _, _, _⟩) rfl _ _ rfl (v := .agg _) rfl HS ?_; clear HS; intro w2 b2 hb2 HS; simp only [Value.cells] at HS)
          | (refine wpList_alloc_st (o := ⟨some 4, .alloc _, _, _, _, _⟩) rfl _ rfl zc_impl_Filter HS ?_; clear HS; intro w4 b4 hb4 HS)
          | (refine wpList_loadA_st (o := ⟨some 7, .load _ _, _, _, _, _⟩) rfl _ _ rfl rfl HS (by repeat (first | exact Take.head | apply Take.tail)) ag_impl_Filter (by simp only [List.drop_succ_cons, List.drop_zero, List.take_succ_cons, List.take_zero, List.take_nil]; rfl) rfl ?_)
          | (refine wpList_alloc_st (o := ⟨some 6, .alloc _, _, _, _, _⟩) rfl _ rfl zc_impl_Filter HS ?_; clear HS; intro w6 b6 hb6 HS)
          | (refine wpList_store_st (o := ⟨none, .store _ (.tmp 6) _, _, _, _, _⟩) rfl _ _ _ rfl rfl (v := .agg (List.toArray _)) rfl HS (by repeat (first | exact Take.head | apply Take.tail)) sz_impl_Filter (by simp only [Value.cells]; rfl) (by rfl) (by rfl) (by simp) ?_ rfl; clear HS; intro w1_3 hz1_3 HS; simp only [nicL, Value.cells, List.append_nil] at HS)
          | (refine wpList_store_st (o := ⟨none, .store _ (.tmp 6) _, _, _, _, _⟩) rfl _ _ _ rfl rfl (v := .agg _) rfl HS (by repeat (first | exact Take.head | apply Take.tail)) sz_impl_Filter (by simp only [Value.cells]; rfl) (by rfl) (by rfl) (by simp) ?_ rfl; clear HS; intro w1_3 hz1_3 HS; simp only [nicL, Value.cells, List.append_nil] at HS)
          | (refine wpList_loadA_st (o := ⟨some 9, .load _ _, _, _, _, _⟩) rfl _ _ rfl rfl HS (by repeat (first | exact Take.head | apply Take.tail)) ag_impl_Filter (by simp only [List.drop_succ_cons, List.drop_zero, List.take_succ_cons, List.take_zero, List.take_nil]; rfl) rfl ?_)
          | (refine wpList_loadS_st (o := ⟨some 14, .load _ _, _, _, _, _⟩) rfl _ _ rfl rfl HS (by repeat (first | exact Take.head | apply Take.tail)) sc_Sint (by rfl) ?_)
          | (refine wpList_loadA_st (o := ⟨some 18, .load _ _, _, _, _, _⟩) rfl _ _ rfl rfl HS (by repeat (first | exact Take.head | apply Take.tail)) ag_impl_Filter (by simp only [List.drop_succ_cons, List.drop_zero, List.take_succ_cons, List.take_zero, List.take_nil]; rfl) rfl ?_)
          | (refine wpList_store_st (o := ⟨none, .store _ (.tmp 4) _, _, _, _, _⟩) rfl _ _ _ rfl rfl (v := .agg (List.toArray _)) rfl HS (by repeat (first | exact Take.head | apply Take.tail)) sz_impl_Filter (by simp only [Value.cells]; rfl) (by rfl) (by rfl) (by simp) ?_ rfl; clear HS; intro w3_1 hz3_1 HS; simp only [nicL, Value.cells, List.append_nil] at HS)
          | (refine wpList_store_st (o := ⟨none, .store _ (.tmp 4) _, _, _, _, _⟩) rfl _ _ _ rfl rfl (v := .agg _) rfl HS (by repeat (first | exact Take.head | apply Take.tail)) sz_impl_Filter (by simp only [Value.cells]; rfl) (by rfl) (by rfl) (by simp) ?_ rfl; clear HS; intro w3_1 hz3_1 HS; simp only [nicL, Value.cells, List.append_nil] at HS)
          | (refine wpList_loadS_st (o := ⟨some 20, .load _ _, _, _, _, _⟩) rfl _ _ rfl rfl HS (by repeat (first | exact Take.head | apply Take.tail)) sc_Sint (by rfl) ?_)
          | (refine wpList_store_st (o := ⟨none, .store _ (.tmp 23) _, _, _, _, _⟩) rfl _ _ _ rfl rfl (v := .slice _ _ _) rfl HS (by repeat (first | exact Take.head | apply Take.tail)) sz_Sint (by simp only [Value.cells]; rfl) (by rfl) (by rfl) (by simp) ?_ rfl; clear HS; intro w4_5 hz4_5 HS; simp only [nicL, Value.cells, List.append_nil] at HS)
          | (refine wpList_store_st (o := ⟨none, .store _ (.tmp 23) _, _, _, _, _⟩) rfl _ _ _ rfl rfl (v := _) rfl HS (by repeat (first | exact Take.head | apply Take.tail)) sz_Sint (by simp only [Value.cells]; rfl) (by rfl) (by rfl) (by simp) ?_ rfl; clear HS; intro w4_5 hz4_5 HS; simp only [nicL, Value.cells, List.append_nil] at HS)
          | (refine wpList_loadA_st (o := ⟨some 24, .load _ _, _, _, _, _⟩) rfl _ _ rfl rfl HS (by repeat (first | exact Take.head | apply Take.tail)) ag_impl_Filter (by simp only [List.drop_succ_cons, List.drop_zero, List.take_succ_cons, List.take_zero, List.take_nil]; rfl) rfl ?_)
          | (refine wpList_loadA_st (o := ⟨some 27, .load _ _, _, _, _, _⟩) rfl _ _ rfl rfl HS (by repeat (first | exact Take.head | apply Take.tail)) ag_impl_Filter (by simp only [List.drop_succ_cons, List.drop_zero, List.take_succ_cons, List.take_zero, List.take_nil]; rfl) rfl ?_)
          | (refine wpList_store_st (o := ⟨none, .store _ (.tmp 4) _, _, _, _, _⟩) rfl _ _ _ rfl rfl (v := .agg (List.toArray _)) rfl HS (by repeat (first | exact Take.head | apply Take.tail)) sz_impl_Filter (by simp only [Value.cells]; rfl) (by rfl) (by rfl) (by simp) ?_ rfl; clear HS; intro w6_2 hz6_2 HS; simp only [nicL, Value.cells, List.append_nil] at HS)
          | (refine wpList_store_st (o := ⟨none, .store _ (.tmp 4) _, _, _, _, _⟩) rfl _ _ _ rfl rfl (v := .agg _) rfl HS (by repeat (first | exact Take.head | apply Take.tail)) sz_impl_Filter (by simp only [Value.cells]; rfl) (by rfl) (by rfl) (by simp) ?_ rfl; clear HS; intro w6_2 hz6_2 HS; simp only [nicL, Value.cells, List.append_nil] at HS)
          | (refine wpList_loadA_st (o := ⟨some 29, .load _ _, _, _, _, _⟩) rfl _ _ rfl rfl HS (by repeat (first | exact Take.head | apply Take.tail)) ag_impl_Filter (by simp only [List.drop_succ_cons, List.drop_zero, List.take_succ_cons, List.take_zero, List.take_nil]; rfl) rfl ?_)
          | (refine wpList_store_st (o := ⟨none, .store _ (.tmp 4) _, _, _, _, _⟩) rfl _ _ _ rfl rfl (v := .agg (List.toArray _)) rfl HS (by repeat (first | exact Take.head | apply Take.tail)) sz_impl_Filter (by simp only [Value.cells]; rfl) (by rfl) (by rfl) (by simp) ?_ rfl; clear HS; intro w7_1 hz7_1 HS; simp only [nicL, Value.cells, List.append_nil] at HS)
          | (refine wpList_store_st (o := ⟨none, .store _ (.tmp 4) _, _, _, _, _⟩) rfl _ _ _ rfl rfl (v := .agg _) rfl HS (by repeat (first | exact Take.head | apply Take.tail)) sz_impl_Filter (by simp only [Value.cells]; rfl) (by rfl) (by rfl) (by simp) ?_ rfl; clear HS; intro w7_1 hz7_1 HS; simp only [nicL, Value.cells, List.append_nil] at HS))
    refine bodyPost_rets (by rfl) (RVs.cell (by rfl) HS (by repeat (first | exact Take.head | apply Take.tail)) ag_impl_Filter (by rfl) (RVs.tmp (by rfl) RVs.nil)) (by simp) (by rfl) ?_
    rw [HK.out, HV.out]
    exact retFilt HS (by repeat (first | exact Take.head | apply Take.tail))


end Go.Proofs.Ytlpipllhbobfbaa
