/- l30Copy. -/
import Derived.Test.YtigepcpmdhcenaaRows
import Derived.Test.YtigepcpmdhcenaaCopyA
import Derived.Test.YtigepcpmdhcenaaGap
namespace Go.Proofs.Ytigepcpmdhcenaa
open Go.RowKit
set_option linter.unusedVariables false
set_option linter.unusedSimpArgs false

theorem holds_i64 {w : World} {xs : List Int} {vs : List Value} (h : Holds w xs vs) : ∀ x ∈ xs, i64ok x := by
  obtain ⟨_, _, _, _, _, _, h4⟩ := h.ints
  exact h4

set_option maxRecDepth 100000 in
set_option maxHeartbeats 4000000 in
theorem l30Copy_any (v1 v2 : Value) (qs : List (List Int)) (ds : List Int) (qu tu : Int) (fr : Bool) (w : World) (k1 : Holds w qs [v1]) (k2 : Holds w ds [v2]) (hl : qs.length ≤ 1048576) (hi : ∀ x ∈ qs, x.length ≤ 1048576) (hd : ds.length ≤ 1048576) :
    Calls Try.prog 21 #[.agg #[v1, v2, .int .i64 qu, .int .i64 tu, .bool fr]] w (RetFair w qs ds qu tu fr) := by
  obtain ⟨a, cap, hv, m1, m2, m3⟩ := k1.slices
  simp only [List.cons.injEq, and_true] at hv
  subst hv
  obtain ⟨a', cap', hv, m1', m2', m3', m4'⟩ := k2.ints
  simp only [List.cons.injEq, and_true] at hv
  subst hv
  unfold maxLen at m2 m2'
  have M3 := hid m3
  have M4 := hid m4'
  have HI := hid hi
  have M4' := hid m4'
  clear m3 m3' m4' hi
  have HS := St.start w
  go_enter Try.func21, Try.ntmps21
  go_wp2_with (first
        | ((with_reducible (show wpList _ _ _ (Oper.mk (some 1) (Op.box _ _) _ _ _ _ :: _) _ _)); refine wpList_box_st (o := ⟨some 1, .box _ _, _, _, _, _⟩) rfl _ _ rfl (v := .agg (List.toArray _)) rfl HS ?_; clear HS; intro w1 b1 hb1 HS; simp only [Value.cells] at HS)
        | ((with_reducible (show wpList _ _ _ (Oper.mk (some 1) (Op.box _ _) _ _ _ _ :: _) _ _)); refine wpList_box_st (o := ⟨some 1, .box _ _, _, _, _, _⟩) rfl _ _ rfl (v := .agg _) rfl HS ?_; clear HS; intro w1 b1 hb1 HS; simp only [Value.cells] at HS)
        | ((with_reducible (show wpList _ _ _ (Oper.mk (some 2) (Op.alloc _) _ _ _ _ :: _) _ _)); refine wpList_alloc_st (o := ⟨some 2, .alloc _, _, _, _, _⟩) rfl _ rfl zc_impl_Fair HS ?_; clear HS; intro w2 b2 hb2 HS)
        | ((with_reducible (show wpList _ _ _ (Oper.mk (some 18) (Op.load _ _) _ _ _ _ :: _) _ _)); refine wpList_loadS_st (o := ⟨some 18, .load _ _, _, _, _, _⟩) rfl _ _ rfl rfl HS (by first | ((repeat (first | (with_reducible exact Take.head) | apply Take.tail)); done) | (repeat (first | exact Take.head | apply Take.tail))) sc_SSint (by rfl) ?_)
        | ((with_reducible (show wpList _ _ _ (Oper.mk (some 35) (Op.load _ _) _ _ _ _ :: _) _ _)); refine wpList_loadA_st (o := ⟨some 35, .load _ _, _, _, _, _⟩) rfl _ _ rfl rfl HS (by first | ((repeat (first | (with_reducible exact Take.head) | apply Take.tail)); done) | (repeat (first | exact Take.head | apply Take.tail))) ag_impl_Fair (by simp only [List.drop_succ_cons, List.drop_zero, List.take_succ_cons, List.take_zero, List.take_nil]; rfl) rfl ?_)
        | ((with_reducible (show wpList _ _ _ (Oper.mk none (Op.store _ (.tmp 2) _) _ _ _ _ :: _) _ _)); refine wpList_store_st (o := ⟨none, .store _ (.tmp 2) _, _, _, _, _⟩) rfl _ _ _ rfl rfl (v := .agg (List.toArray _)) rfl HS (by first | ((repeat (first | (with_reducible exact Take.head) | apply Take.tail)); done) | (repeat (first | exact Take.head | apply Take.tail))) sz_impl_Fair (by simp only [Value.cells]; rfl) (by rfl) (by rfl) (by simp) ?_ rfl; clear HS; intro w6_1 hz6_1 HS; simp only [nicL, Value.cells, List.append_nil] at HS)
        | ((with_reducible (show wpList _ _ _ (Oper.mk none (Op.store _ (.tmp 2) _) _ _ _ _ :: _) _ _)); refine wpList_store_st (o := ⟨none, .store _ (.tmp 2) _, _, _, _, _⟩) rfl _ _ _ rfl rfl (v := .agg _) rfl HS (by first | ((repeat (first | (with_reducible exact Take.head) | apply Take.tail)); done) | (repeat (first | exact Take.head | apply Take.tail))) sz_impl_Fair (by simp only [Value.cells]; rfl) (by rfl) (by rfl) (by simp) ?_ rfl; clear HS; intro w6_1 hz6_1 HS; simp only [nicL, Value.cells, List.append_nil] at HS))
  refine wp_region_plan_st HS (.early 1 (.early 2 (.early 4 (.early 5 (.early 6 (.early 7 (.early 8 (.early 9 (.fork 0 1 (.fork 3 1 (.fork 10 1 (.forced 11 1 (.forced 12 2 .done)) 11 1 (.forced 10 2 (.forced 12 2 .done))) 11 1 (.forced 3 1 (.forced 10 2 (.forced 12 2 .done)))) 11 1 (.forced 0 1 (.forced 3 1 (.forced 10 2 (.forced 12 2 .done))))))))))))) (by kernel_rfl) (by kernel_rfl) ?_
  intro hne
  replace HS := HS.drew
  try go_simp
  first | refine wpPlan_skipE rfl rfl ?_ | (refine wpPlan_early rfl rfl ?_; intro K hK; (first | go_big_quiet_op); go_big_quiet_on)
  first | refine wpPlan_skipE rfl rfl ?_ | (refine wpPlan_early rfl rfl ?_; intro K hK; (first | ((refine quiet_loadS_st  _ _ rfl rfl (by first | ((repeat (first | (with_reducible exact Take.head) | apply Take.tail)); done) | (repeat (first | exact Take.head | apply Take.tail))) sc_Sint (by rfl) ?_); (try go_simp)) | go_big_quiet_op); go_big_quiet_on)
  first | refine wpPlan_skipE rfl rfl ?_ | (refine wpPlan_early rfl rfl ?_; intro K hK; (first | go_big_quiet_op); go_big_quiet_on)
  first | refine wpPlan_skipE rfl rfl ?_ | (refine wpPlan_early rfl rfl ?_; intro K hK; (first | ((refine quiet_loadS_st  _ _ rfl rfl (by first | ((repeat (first | (with_reducible exact Take.head) | apply Take.tail)); done) | (repeat (first | exact Take.head | apply Take.tail))) sc_int (by rfl) ?_); (try go_simp)) | go_big_quiet_op); go_big_quiet_on)
  first | refine wpPlan_skipE rfl rfl ?_ | (refine wpPlan_early rfl rfl ?_; intro K hK; (first | go_big_quiet_op); go_big_quiet_on)
  first | refine wpPlan_skipE rfl rfl ?_ | (refine wpPlan_early rfl rfl ?_; intro K hK; (first | ((refine quiet_loadS_st  _ _ rfl rfl (by first | ((repeat (first | (with_reducible exact Take.head) | apply Take.tail)); done) | (repeat (first | exact Take.head | apply Take.tail))) sc_int (by rfl) ?_); (try go_simp)) | go_big_quiet_op); go_big_quiet_on)
  first | refine wpPlan_skipE rfl rfl ?_ | (refine wpPlan_early rfl rfl ?_; intro K hK; (first | go_big_quiet_op); go_big_quiet_on)
  first | refine wpPlan_skipE rfl rfl ?_ | (refine wpPlan_early rfl rfl ?_; intro K hK; (first | ((refine quiet_loadS_st  _ _ rfl rfl (by first | ((repeat (first | (with_reducible exact Take.head) | apply Take.tail)); done) | (repeat (first | exact Take.head | apply Take.tail))) sc_bool (by rfl) ?_); (try go_simp)) | go_big_quiet_op); go_big_quiet_on)
  refine wpPlan_fork ?_ ?_
  focus
    first | refine wpOne_skip rfl rfl ?_ | (refine wpOne_1 rfl rfl ?_; intro K hK; (first | (refine wp_bslice0_st  _ rfl _ Try.underlying25 in_int HS ?_; clear HS; intro w5 b5 hb5 HS)); replace HS := HS.slotMade 1 (by first | ((repeat (first | (with_reducible exact Take.head) | apply Take.tail)); done) | (repeat (first | exact Take.head | apply Take.tail))); (try go_simp); refine hK _ _ ?_ ?_; (focus (first | (with_reducible exact StW.mk' HS) | exact StW.mk' (HS.arr (by repeat (first | exact Arr.nil | (with_reducible exact take_all _) | (refine Arr.cons (by first | ((repeat (first | (with_reducible exact Take.head) | apply Take.tail)); done) | (repeat (first | exact Take.head | apply Take.tail))) ?_)))))); clear hK K)
    refine wpPlan_fork ?_ ?_
    focus
      first | refine wpOne_skip rfl rfl ?_ | (refine wpOne_1 rfl rfl ?_; intro K hK; (first | (refine wp_appN_st  (N := ds.length) _ _ _ _ rfl _ Try.underlying25 in_int rfl HS (by first | ((repeat (first | (with_reducible exact Take.head) | apply Take.tail)); done) | (repeat (first | exact Take.head | apply Take.tail))) rfl (Holds.srcInts (k2.ex HS.ex) Try.underlying25) (by omega) (by unfold maxLen; omega) (by omega) ?_; clear HS; intro a8 c8 w8 hb8 HS)); (try go_simp); refine hK _ _ ?_ ?_; (focus (first | (with_reducible exact StW.mk' HS) | exact StW.mk' (HS.arr (by repeat (first | exact Arr.nil | (with_reducible exact take_all _) | (refine Arr.cons (by first | ((repeat (first | (with_reducible exact Take.head) | apply Take.tail)); done) | (repeat (first | exact Take.head | apply Take.tail))) ?_)))))); clear hK K)
      refine wpPlan_fork ?_ ?_
      focus
        first | refine wpOne_skip rfl rfl ?_ | (refine wpOne_1 rfl rfl ?_; intro K hK; go_simp; refine hK _ _ ?_ ?_; (focus (first | (with_reducible exact StW.mk' HS) | exact StW.mk' (HS.arr (by repeat (first | exact Arr.nil | (with_reducible exact take_all _) | (refine Arr.cons (by first | ((repeat (first | (with_reducible exact Take.head) | apply Take.tail)); done) | (repeat (first | exact Take.head | apply Take.tail))) ?_)))))); clear hK K)
        refine wpPlan_forced ?_
        first | refine wpOne_skip rfl rfl ?_ | (refine wpOne_1 rfl rfl ?_; intro K hK; (first | (refine wp_alloc_st  _ rfl zc_impl_Fair HS ?_; clear HS; intro w3 b3 hb3 HS)); (try go_simp); refine hK _ _ ?_ ?_; (focus (first | (with_reducible exact StW.mk' HS) | exact StW.mk' (HS.arr (by repeat (first | exact Arr.nil | (with_reducible exact take_all _) | (refine Arr.cons (by first | ((repeat (first | (with_reducible exact Take.head) | apply Take.tail)); done) | (repeat (first | exact Take.head | apply Take.tail))) ?_)))))); clear hK K)
        refine wpPlan_forced ?_
        first | refine wpOne_skip rfl rfl ?_ | (refine wpOne_2 rfl rfl ?_; intro K hK; (first | (refine wp_store_st  _ _ _ rfl rfl (v := .agg (List.toArray _)) rfl HS (by first | ((repeat (first | (with_reducible exact Take.head) | apply Take.tail)); done) | (repeat (first | exact Take.head | apply Take.tail))) sz_impl_Fair (by simp only [Value.cells]; rfl) (by rfl) (by rfl) (by simp) ?_ rfl; clear HS; intro w1_12 hz1_12 HS; simp only [nicL, Value.cells, List.append_nil] at HS) | (refine wp_store_st  _ _ _ rfl rfl (v := .agg _) rfl HS (by first | ((repeat (first | (with_reducible exact Take.head) | apply Take.tail)); done) | (repeat (first | exact Take.head | apply Take.tail))) sz_impl_Fair (by simp only [Value.cells]; rfl) (by rfl) (by rfl) (by simp) ?_ rfl; clear HS; intro w1_12 hz1_12 HS; simp only [nicL, Value.cells, List.append_nil] at HS)); (try go_simp); refine hK _ _ ?_; clear hK K)
        refine wpPlan_done ?_
      rotate_left 1
      focus
        first | refine wpOne_skip rfl rfl ?_ | (refine wpOne_1 rfl rfl ?_; intro K hK; (first | (refine wp_alloc_st  _ rfl zc_impl_Fair HS ?_; clear HS; intro w3 b3 hb3 HS)); (try go_simp); refine hK _ _ ?_ ?_; (focus (first | (with_reducible exact StW.mk' HS) | exact StW.mk' (HS.arr (by repeat (first | exact Arr.nil | (with_reducible exact take_all _) | (refine Arr.cons (by first | ((repeat (first | (with_reducible exact Take.head) | apply Take.tail)); done) | (repeat (first | exact Take.head | apply Take.tail))) ?_)))))); clear hK K)
        refine wpPlan_forced ?_
        first | refine wpOne_skip rfl rfl ?_ | (refine wpOne_2 rfl rfl ?_; intro K hK; go_simp; refine hK _ _ ?_; clear hK K)
        refine wpPlan_forced ?_
        first | refine wpOne_skip rfl rfl ?_ | (refine wpOne_2 rfl rfl ?_; intro K hK; (first | (refine wp_store_st  _ _ _ rfl rfl (v := .agg (List.toArray _)) rfl HS (by first | ((repeat (first | (with_reducible exact Take.head) | apply Take.tail)); done) | (repeat (first | exact Take.head | apply Take.tail))) sz_impl_Fair (by simp only [Value.cells]; rfl) (by rfl) (by rfl) (by simp) ?_ rfl; clear HS; intro w1_12 hz1_12 HS; simp only [nicL, Value.cells, List.append_nil] at HS) | (refine wp_store_st  _ _ _ rfl rfl (v := .agg _) rfl HS (by first | ((repeat (first | (with_reducible exact Take.head) | apply Take.tail)); done) | (repeat (first | exact Take.head | apply Take.tail))) sz_impl_Fair (by simp only [Value.cells]; rfl) (by rfl) (by rfl) (by simp) ?_ rfl; clear HS; intro w1_12 hz1_12 HS; simp only [nicL, Value.cells, List.append_nil] at HS)); (try go_simp); refine hK _ _ ?_; clear hK K)
        refine wpPlan_done ?_
    rotate_left 2
    focus
      first | refine wpOne_skip rfl rfl ?_ | (refine wpOne_1 rfl rfl ?_; intro K hK; (first | (refine wp_alloc_st  _ rfl zc_impl_Fair HS ?_; clear HS; intro w3 b3 hb3 HS)); (try go_simp); refine hK _ _ ?_ ?_; (focus (first | (with_reducible exact StW.mk' HS) | exact StW.mk' (HS.arr (by repeat (first | exact Arr.nil | (with_reducible exact take_all _) | (refine Arr.cons (by first | ((repeat (first | (with_reducible exact Take.head) | apply Take.tail)); done) | (repeat (first | exact Take.head | apply Take.tail))) ?_)))))); clear hK K)
      refine wpPlan_forced ?_
      first | refine wpOne_skip rfl rfl ?_ | (refine wpOne_1 rfl rfl ?_; intro K hK; (first | (refine wp_appN_st  (N := ds.length) _ _ _ _ rfl _ Try.underlying25 in_int rfl HS (by first | ((repeat (first | (with_reducible exact Take.head) | apply Take.tail)); done) | (repeat (first | exact Take.head | apply Take.tail))) rfl (Holds.srcInts (k2.ex HS.ex) Try.underlying25) (by omega) (by unfold maxLen; omega) (by omega) ?_; clear HS; intro a8 c8 w8 hb8 HS)); (try go_simp); refine hK _ _ ?_ ?_; (focus (first | (with_reducible exact StW.mk' HS) | exact StW.mk' (HS.arr (by repeat (first | exact Arr.nil | (with_reducible exact take_all _) | (refine Arr.cons (by first | ((repeat (first | (with_reducible exact Take.head) | apply Take.tail)); done) | (repeat (first | exact Take.head | apply Take.tail))) ?_)))))); clear hK K)
      refine wpPlan_forced ?_
      first | refine wpOne_skip rfl rfl ?_ | (refine wpOne_2 rfl rfl ?_; intro K hK; go_simp; refine hK _ _ ?_; clear hK K)
      refine wpPlan_forced ?_
      first | refine wpOne_skip rfl rfl ?_ | (refine wpOne_2 rfl rfl ?_; intro K hK; (first | (refine wp_store_st  _ _ _ rfl rfl (v := .agg (List.toArray _)) rfl HS (by first | ((repeat (first | (with_reducible exact Take.head) | apply Take.tail)); done) | (repeat (first | exact Take.head | apply Take.tail))) sz_impl_Fair (by simp only [Value.cells]; rfl) (by rfl) (by rfl) (by simp) ?_ rfl; clear HS; intro w1_12 hz1_12 HS; simp only [nicL, Value.cells, List.append_nil] at HS) | (refine wp_store_st  _ _ _ rfl rfl (v := .agg _) rfl HS (by first | ((repeat (first | (with_reducible exact Take.head) | apply Take.tail)); done) | (repeat (first | exact Take.head | apply Take.tail))) sz_impl_Fair (by simp only [Value.cells]; rfl) (by rfl) (by rfl) (by simp) ?_ rfl; clear HS; intro w1_12 hz1_12 HS; simp only [nicL, Value.cells, List.append_nil] at HS)); (try go_simp); refine hK _ _ ?_; clear hK K)
      refine wpPlan_done ?_
  rotate_left 3
  focus
    first | refine wpOne_skip rfl rfl ?_ | (refine wpOne_1 rfl rfl ?_; intro K hK; (first | (refine wp_alloc_st  _ rfl zc_impl_Fair HS ?_; clear HS; intro w3 b3 hb3 HS)); (try go_simp); refine hK _ _ ?_ ?_; (focus (first | (with_reducible exact StW.mk' HS) | exact StW.mk' (HS.arr (by repeat (first | exact Arr.nil | (with_reducible exact take_all _) | (refine Arr.cons (by first | ((repeat (first | (with_reducible exact Take.head) | apply Take.tail)); done) | (repeat (first | exact Take.head | apply Take.tail))) ?_)))))); clear hK K)
    refine wpPlan_forced ?_
    first | refine wpOne_skip rfl rfl ?_ | (refine wpOne_1 rfl rfl ?_; intro K hK; (first | (refine wp_bslice0_st  _ rfl _ Try.underlying25 in_int HS ?_; clear HS; intro w5 b5 hb5 HS)); replace HS := HS.slotMade 1 (by first | ((repeat (first | (with_reducible exact Take.head) | apply Take.tail)); done) | (repeat (first | exact Take.head | apply Take.tail))); (try go_simp); refine hK _ _ ?_ ?_; (focus (first | (with_reducible exact StW.mk' HS) | exact StW.mk' (HS.arr (by repeat (first | exact Arr.nil | (with_reducible exact take_all _) | (refine Arr.cons (by first | ((repeat (first | (with_reducible exact Take.head) | apply Take.tail)); done) | (repeat (first | exact Take.head | apply Take.tail))) ?_)))))); clear hK K)
    refine wpPlan_forced ?_
    first | refine wpOne_skip rfl rfl ?_ | (refine wpOne_1 rfl rfl ?_; intro K hK; (first | (refine wp_appN_st  (N := ds.length) _ _ _ _ rfl _ Try.underlying25 in_int rfl HS (by first | ((repeat (first | (with_reducible exact Take.head) | apply Take.tail)); done) | (repeat (first | exact Take.head | apply Take.tail))) rfl (Holds.srcInts (k2.ex HS.ex) Try.underlying25) (by omega) (by unfold maxLen; omega) (by omega) ?_; clear HS; intro a8 c8 w8 hb8 HS)); (try go_simp); refine hK _ _ ?_ ?_; (focus (first | (with_reducible exact StW.mk' HS) | exact StW.mk' (HS.arr (by repeat (first | exact Arr.nil | (with_reducible exact take_all _) | (refine Arr.cons (by first | ((repeat (first | (with_reducible exact Take.head) | apply Take.tail)); done) | (repeat (first | exact Take.head | apply Take.tail))) ?_)))))); clear hK K)
    refine wpPlan_forced ?_
    first | refine wpOne_skip rfl rfl ?_ | (refine wpOne_2 rfl rfl ?_; intro K hK; go_simp; refine hK _ _ ?_; clear hK K)
    refine wpPlan_forced ?_
    first | refine wpOne_skip rfl rfl ?_ | (refine wpOne_2 rfl rfl ?_; intro K hK; (first | (refine wp_store_st  _ _ _ rfl rfl (v := .agg (List.toArray _)) rfl HS (by first | ((repeat (first | (with_reducible exact Take.head) | apply Take.tail)); done) | (repeat (first | exact Take.head | apply Take.tail))) sz_impl_Fair (by simp only [Value.cells]; rfl) (by rfl) (by rfl) (by simp) ?_ rfl; clear HS; intro w1_12 hz1_12 HS; simp only [nicL, Value.cells, List.append_nil] at HS) | (refine wp_store_st  _ _ _ rfl rfl (v := .agg _) rfl HS (by first | ((repeat (first | (with_reducible exact Take.head) | apply Take.tail)); done) | (repeat (first | exact Take.head | apply Take.tail))) sz_impl_Fair (by simp only [Value.cells]; rfl) (by rfl) (by rfl) (by simp) ?_ rfl; clear HS; intro w1_12 hz1_12 HS; simp only [nicL, Value.cells, List.append_nil] at HS)); (try go_simp); refine hK _ _ ?_; clear hK K)
    refine wpPlan_done ?_
  all_goals
    replace HS := HS.shut (α := Int) (xs := ds) (by first | ((repeat (first | (with_reducible exact Take.head) | apply Take.tail)); done) | (repeat (first | exact Take.head | apply Take.tail))) (by rw [List.nil_append, ints_flat]) M4'.out
    replace HS := HS.listNil (α := List Int) 25
    go_wp2
    go_loopw [4] (fun i wr => ∃ (k : Nat) (vs : List Value) (A : Option Addr) (c : Nat), i = .int .i64 k ∧ k ≤ qs.length ∧ St w wr [listA 25 (qs.take k) (.slice A k c) vs, ownA ds [.slice a8 ds.length c8], rowA b3 [.slice A k c, .slice a8 ds.length c8, .int .i64 qu, .int .i64 tu, .bool fr] 27, rowA b2 [.slice none 0 0, .slice none 0 0, .int .i64 0, .int .i64 0, .bool false] 27, rowA b1 [.slice a qs.length cap, .slice a' ds.length cap', .int .i64 qu, .int .i64 tu, .bool fr] 27]) (fun i _ => qs.length - (intOf i).toNat)
    case atStart => exact ⟨0, [], none, 0, rfl, Nat.zero_le _, by rw [List.take_zero]; exact (HS.arr (by repeat (first | exact Arr.nil | (with_reducible exact take_all _) | (refine Arr.cons (by first | ((repeat (first | (with_reducible exact Take.head) | apply Take.tail)); done) | (repeat (first | exact Take.head | apply Take.tail))) ?_))))⟩
    case round =>
      clear HS
      obtain ⟨k, vs, A, c, rfl, hk, HS⟩ := hrel
      by_cases hlt : k < qs.length
      case pos =>
        obtain ⟨b, off, a3, c3, rfl, hc, hh⟩ := M3.out k hlt
        have hlb := World.block_lt_of_cell? _ _ hc
        have hb := HI.out _ (List.getElem_mem hlt)
        have hlen : (qs.take k).length = k := by rw [List.length_take]; omega
        have HT := hid (List.take_succ_eq_append_getElem hlt)
        have hy4 := holds_i64 hh
        generalize hy : qs[k] = y at *
        have HY := hid hy4
        clear hy hy4
        go_wp2_with (first
            | ((with_reducible (show wpList _ _ _ (Oper.mk (some 18) (Op.load _ _) _ _ _ _ :: _) _ _)); refine wpList_loadS_st (o := ⟨some 18, .load _ _, _, _, _, _⟩) rfl _ _ rfl rfl HS (by first | ((repeat (first | (with_reducible exact Take.head) | apply Take.tail)); done) | (repeat (first | exact Take.head | apply Take.tail))) sc_SSint (by rfl) ?_))
        refine wp_region_plan_st HS (.early 0 (.early 1 (.early 3 (.early 4 (.early 5 (.early 6 (.early 7 (.forced 2 1 (.forced 8 1 (.forced 9 1 (.forced 10 2 (.forced 11 2 (.forced 12 2 .done))))))))))))) (by kernel_rfl) (by kernel_rfl) ?_
        intro hne
        replace HS := HS.drew
        try go_simp
        first | refine wpPlan_skipE rfl rfl ?_ | (refine wpPlan_early rfl rfl ?_; intro K hK; (first | go_big_quiet_op); go_big_quiet_on)
        first | refine wpPlan_skipE rfl rfl ?_ | (refine wpPlan_early rfl rfl ?_; intro K hK; (first | ((refine quiet_loadS_st  _ _ rfl rfl (by first | ((repeat (first | (with_reducible exact Take.head) | apply Take.tail)); done) | (repeat (first | exact Take.head | apply Take.tail))) sc_SSint (by rfl) ?_); (try go_simp)) | go_big_quiet_op); go_big_quiet_on)
        first | refine wpPlan_skipE rfl rfl ?_ | (refine wpPlan_early rfl rfl ?_; intro K hK; (first | go_big_quiet_op); go_big_quiet_on)
        first | refine wpPlan_skipE rfl rfl ?_ | (refine wpPlan_early rfl rfl ?_; intro K hK; (first | ((refine quiet_loadS_st  _ _ rfl rfl (by first | ((repeat (first | (with_reducible exact Take.head) | apply Take.tail)); done) | (repeat (first | exact Take.head | apply Take.tail))) sc_SSint (by rfl) ?_); (try go_simp)) | go_big_quiet_op); go_big_quiet_on)
        first | refine wpPlan_skipE rfl rfl ?_ | (refine wpPlan_early rfl rfl ?_; intro K hK; (first | go_big_quiet_op); go_big_quiet_on)
        first | refine wpPlan_skipE rfl rfl ?_ | (refine wpPlan_early rfl rfl ?_; intro K hK; (first | go_big_quiet_op); go_big_quiet_on)
        first | refine wpPlan_skipE rfl rfl ?_ | (refine wpPlan_early rfl rfl ?_; intro K hK; (first | ((refine quiet_loadC_st  _ _ rfl rfl sc_Sint (by first | exact fun _ h => (h.ex.cell hlb).trans hc) ?_); (try go_simp)) | go_big_quiet_op); go_big_quiet_on)
        refine wpPlan_forced ?_
        first | refine wpOne_skip rfl rfl ?_ | (refine wpOne_1 rfl rfl ?_; intro K hK; (first | (refine wp_bslice0_st  _ rfl _ Try.underlying25 in_int HS ?_; clear HS; intro w25 b25 hb25 HS)); replace HS := HS.slotMade 1 (by first | ((repeat (first | (with_reducible exact Take.head) | apply Take.tail)); done) | (repeat (first | exact Take.head | apply Take.tail))); (try go_simp); refine hK _ _ ?_ ?_; (focus (first | (with_reducible exact StW.mk' HS) | exact StW.mk' (HS.arr (by repeat (first | exact Arr.nil | (with_reducible exact take_all _) | (refine Arr.cons (by first | ((repeat (first | (with_reducible exact Take.head) | apply Take.tail)); done) | (repeat (first | exact Take.head | apply Take.tail))) ?_)))))); clear hK K)
        refine wpPlan_forced ?_
        first | refine wpOne_skip rfl rfl ?_ | (refine wpOne_1 rfl rfl ?_; intro K hK; (first | (refine wp_appN_st  (N := y.length) _ _ _ _ rfl _ Try.underlying25 in_int rfl HS (by first | ((repeat (first | (with_reducible exact Take.head) | apply Take.tail)); done) | (repeat (first | exact Take.head | apply Take.tail))) rfl (Holds.srcInts (hh.ex HS.ex) Try.underlying25) (by omega) (by unfold maxLen; omega) (by omega) ?_; clear HS; intro a31 c31 w31 hb31 HS)); replace HS := HS.shut (α := Int) (xs := y) (by first | ((repeat (first | (with_reducible exact Take.head) | apply Take.tail)); done) | (repeat (first | exact Take.head | apply Take.tail))) (by rw [List.nil_append, ints_flat]) HY.out; (try go_simp); refine hK _ _ ?_ ?_; (focus (first | (with_reducible exact StW.mk' HS) | exact StW.mk' (HS.arr (by repeat (first | exact Arr.nil | (with_reducible exact take_all _) | (refine Arr.cons (by first | ((repeat (first | (with_reducible exact Take.head) | apply Take.tail)); done) | (repeat (first | exact Take.head | apply Take.tail))) ?_)))))); clear hK K)
        refine wpPlan_forced ?_
        first | refine wpOne_skip rfl rfl ?_ | (refine wpOne_1 rfl rfl ?_; intro K hK; (first | (refine wp_bslice1_st  _ _ rfl _ Try.underlying24 in_Sint (by decide) (by decide) (x := .slice _ _ _) rfl (by simp only [Value.cells]; rfl) (by rfl) HS ?_; clear HS; intro w32 b32 hb32 HS) | (refine wp_bslice1_st  _ _ rfl _ Try.underlying24 in_Sint (by decide) (by decide) (x := _) rfl (by simp only [Value.cells]; rfl) (by rfl) HS ?_; clear HS; intro w32 b32 hb32 HS)); (try go_simp); refine hK _ _ ?_ ?_; (focus (first | (with_reducible exact StW.mk' HS) | exact StW.mk' (HS.arr (by repeat (first | exact Arr.nil | (with_reducible exact take_all _) | (refine Arr.cons (by first | ((repeat (first | (with_reducible exact Take.head) | apply Take.tail)); done) | (repeat (first | exact Take.head | apply Take.tail))) ?_)))))); clear hK K)
        refine wpPlan_forced ?_
        first | refine wpOne_skip rfl rfl ?_ | (refine wpOne_2 rfl rfl ?_; intro K hK; (first | (refine wp_appL_st  (α := List Int) _ _ _ _ rfl _ Try.underlying24 in_Sint rfl HS (by first | ((repeat (first | (with_reducible exact Take.head) | apply Take.tail)); done) | (repeat (first | exact Take.head | apply Take.tail))) (by first | ((repeat (first | (with_reducible exact Take.head) | apply Take.tail)); done) | (repeat (first | exact Take.head | apply Take.tail))) rfl (Src.row HS (by first | ((repeat (first | (with_reducible exact Take.head) | apply Take.tail)); done) | (repeat (first | exact Take.head | apply Take.tail))) Try.underlying24 (by rfl) (by rfl)) hlen (by unfold maxLen; omega) (by omega) ?_; clear HS; intro a33 c33 w33 hb33 HS)); (try go_simp); refine hK _ _ ?_; clear hK K)
        refine wpPlan_forced ?_
        first | refine wpOne_skip rfl rfl ?_ | (refine wpOne_2 rfl rfl ?_; intro K hK; go_simp; refine hK _ _ ?_; clear hK K)
        refine wpPlan_forced ?_
        first | refine wpOne_skip rfl rfl ?_ | (refine wpOne_2 rfl rfl ?_; intro K hK; (first | (refine wp_store_st  _ _ _ rfl rfl (v := .slice _ _ _) rfl HS (by first | ((repeat (first | (with_reducible exact Take.head) | apply Take.tail)); done) | (repeat (first | exact Take.head | apply Take.tail))) sz_SSint (by simp only [Value.cells]; rfl) (by rfl) (by rfl) (by simp) ?_ rfl; clear HS; intro w5_12 hz5_12 HS; simp only [nicL, Value.cells, List.append_nil] at HS) | (refine wp_store_st  _ _ _ rfl rfl (v := _) rfl HS (by first | ((repeat (first | (with_reducible exact Take.head) | apply Take.tail)); done) | (repeat (first | exact Take.head | apply Take.tail))) sz_SSint (by simp only [Value.cells]; rfl) (by rfl) (by rfl) (by simp) ?_ rfl; clear HS; intro w5_12 hz5_12 HS; simp only [nicL, Value.cells, List.append_nil] at HS)); (try go_simp); refine hK _ _ ?_; clear hK K)
        refine wpPlan_done ?_
        go_wp2
        go_roundw
        case rel => exact ⟨k + 1, _, a33, c33, by go_num, by omega, by rw [HT.out]; exact (HS.arr (by repeat (first | exact Arr.nil | (with_reducible exact take_all _) | (refine Arr.cons (by first | ((repeat (first | (with_reducible exact Take.head) | apply Take.tail)); done) | (repeat (first | exact Take.head | apply Take.tail))) ?_))))⟩
        case measure => simp [intOf]; omega
      case neg =>
        obtain rfl : k = qs.length := by omega
        rw [List.take_length] at HS
        replace HS := HS.shutL (α := List Int) (by first | ((repeat (first | (with_reducible exact Take.head) | apply Take.tail)); done) | (repeat (first | exact Take.head | apply Take.tail))) rfl
        go_wp2_with (first
            | ((with_reducible (show wpList _ _ _ (Oper.mk (some 18) (Op.load _ _) _ _ _ _ :: _) _ _)); refine wpList_loadS_st (o := ⟨some 18, .load _ _, _, _, _, _⟩) rfl _ _ rfl rfl HS (by first | ((repeat (first | (with_reducible exact Take.head) | apply Take.tail)); done) | (repeat (first | exact Take.head | apply Take.tail))) sc_SSint (by rfl) ?_)
            | ((with_reducible (show wpList _ _ _ (Oper.mk (some 35) (Op.load _ _) _ _ _ _ :: _) _ _)); refine wpList_loadA_st (o := ⟨some 35, .load _ _, _, _, _, _⟩) rfl _ _ rfl rfl HS (by first | ((repeat (first | (with_reducible exact Take.head) | apply Take.tail)); done) | (repeat (first | exact Take.head | apply Take.tail))) ag_impl_Fair (by simp only [List.drop_succ_cons, List.drop_zero, List.take_succ_cons, List.take_zero, List.take_nil]; rfl) rfl ?_)
            | ((with_reducible (show wpList _ _ _ (Oper.mk none (Op.store _ (.tmp 2) _) _ _ _ _ :: _) _ _)); refine wpList_store_st (o := ⟨none, .store _ (.tmp 2) _, _, _, _, _⟩) rfl _ _ _ rfl rfl (v := .agg (List.toArray _)) rfl HS (by first | ((repeat (first | (with_reducible exact Take.head) | apply Take.tail)); done) | (repeat (first | exact Take.head | apply Take.tail))) sz_impl_Fair (by simp only [Value.cells]; rfl) (by rfl) (by rfl) (by simp) ?_ rfl; clear HS; intro w6_1 hz6_1 HS; simp only [nicL, Value.cells, List.append_nil] at HS)
            | ((with_reducible (show wpList _ _ _ (Oper.mk none (Op.store _ (.tmp 2) _) _ _ _ _ :: _) _ _)); refine wpList_store_st (o := ⟨none, .store _ (.tmp 2) _, _, _, _, _⟩) rfl _ _ _ rfl rfl (v := .agg _) rfl HS (by first | ((repeat (first | (with_reducible exact Take.head) | apply Take.tail)); done) | (repeat (first | exact Take.head | apply Take.tail))) sz_impl_Fair (by simp only [Value.cells]; rfl) (by rfl) (by rfl) (by simp) ?_ rfl; clear HS; intro w6_1 hz6_1 HS; simp only [nicL, Value.cells, List.append_nil] at HS))
        refine bodyPost_retc (by rfl) (by rfl) HS (by first | ((repeat (first | (with_reducible exact Take.head) | apply Take.tail)); done) | (repeat (first | exact Take.head | apply Take.tail))) ag_impl_Fair (by rfl) (by rfl) ?_
        exact retFair1 HS (by first | ((repeat (first | (with_reducible exact Take.head) | apply Take.tail)); done) | (repeat (first | exact Take.head | apply Take.tail))) (by first | ((repeat (first | (with_reducible exact Take.head) | apply Take.tail)); done) | (repeat (first | exact Take.head | apply Take.tail)))


end Go.Proofs.Ytigepcpmdhcenaa
