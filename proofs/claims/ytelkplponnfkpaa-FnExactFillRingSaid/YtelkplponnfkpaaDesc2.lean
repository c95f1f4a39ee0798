/- Descriptors read from bytes: the program and the reference. -/
import Derived.Test.YtelkplponnfkpaaRows
import Derived.Test.YtelkplponnfkpaaDesc
import Derived.Laws.StructEq
namespace Go.Proofs.Ytelkplponnfkpaa
open Go.RowKit
set_option linter.unusedVariables false
set_option linter.unusedSimpArgs false

abbrev Dsc := Int × Int × Int × Int × Int × Int
def decX (x : ByteArray) : Dsc := ((bAt x 0 : Int), (bAt x 1 : Int), get16 x 2, get32 x 4, get16 x 8, get16 x 10)
theorem ba_beq_self (x : ByteArray) : (x == x) = true := by
  show (x.data == x.data) = true
  exact beq_self_eq_true _
theorem ba_beq_no {x y : ByteArray} (h : y ≠ x) : (y == x) = false := by
  show (y.data == x.data) = false
  exact beq_eq_false_iff_ne.2 fun e => h (ByteArray.ext e)
def decDF (x : ByteArray) : Dsc × Bool := if x.size = 16 then if encDF (bAt x 0) (bAt x 1) (get16 x 2) (get32 x 4) (get16 x 8) (get16 x 10) = x then (decX x, true) else ((0, 0, 0, 0, 0, 0), false) else ((0, 0, 0, 0, 0, 0), false)

set_option maxRecDepth 100000 in
set_option maxHeartbeats 4000000 in
theorem decodeDesc_any (x : ByteArray) (w : World) (hs : x.size ≤ 9223372036854775807) {op fl ln at_ sz ck : Int} {ok : Bool} (hr : ((op, fl, ln, at_, sz, ck), ok) = decDF x) :
    Calls Try.prog 90 #[.string x] w fun e w' => e = .returned (.tuple #[.agg #[.int .i64 op, .int .i64 fl, .int .i64 ln, .int .i64 at_, .int .i64 sz, .int .i64 ck], .bool ok]) ∧ Ex w w' := by
  replace hs := hid hs
  unfold decDF at hr
  by_cases h1 : x.size = 16
  case neg =>
    rw [if_neg h1] at hr
    simp only [Prod.mk.injEq] at hr
    obtain ⟨⟨rfl, rfl, rfl, rfl, rfl, rfl⟩, rfl⟩ := hr
    have h2 : ((x.size : Int) != 16) = true := by simp; omega
    clear h1
    have HS := St.start w
    go_enter Try.func90, Try.ntmps90
    go_wp2_with (first
          | ((with_reducible (show wpList _ _ _ (Oper.mk (some 2) (Op.alloc _) _ _ _ _ :: _) _ _)); refine wpList_alloc_st (o := ⟨some 2, .alloc _, _, _, _, _⟩) rfl _ rfl zc_impl_Desc HS ?_; clear HS; intro w2 b2 hb2 HS)
          | ((with_reducible (show wpList _ _ _ (Oper.mk none (Op.store _ (.tmp 2) _) _ _ _ _ :: _) _ _)); refine wpList_store_st (o := ⟨none, .store _ (.tmp 2) _, _, _, _, _⟩) rfl _ _ _ rfl rfl (v := .agg (List.toArray _)) rfl HS tk sz_impl_Desc vcs rfx rfx (by simp) ?_ rfl; clear HS; intro w2_1 hz2_1 HS; simp only [nicL, Value.cells, List.append_nil] at HS))
    refine bodyPost_rets rfx (RVs.cell rfx HS tk ag_impl_Desc rfx (RVs.tmp rfx RVs.nil)) (by simp) rfx ?_
    exact ⟨rfl, HS.ex⟩
  case pos =>
    rw [if_pos h1] at hr
    have h2 : ((x.size : Int) != 16) = false := by simp; omega
    have a0 : 0 < x.size := by omega
    have a1 : 1 < x.size := by omega
    have r1 : (1 : Int) < x.size := by omega
    have r0 : (0 : Int) < x.size := by omega
    clear h1
    obtain ⟨y, hy⟩ : ∃ y, encDF (bAt x 0) (bAt x 1) (get16 x 2) (get32 x 4) (get16 x 8) (get16 x 10) = y := ⟨_, rfl⟩
    rw [hy] at hr
    have HE := hid hy
    clear hy
    have B0 := hid (bAt_eq a0)
    have B1 := hid (bAt_eq a1)
    by_cases h3 : y = x
    case neg =>
      rw [if_neg h3] at hr
      simp only [Prod.mk.injEq] at hr
      obtain ⟨⟨rfl, rfl, rfl, rfl, rfl, rfl⟩, rfl⟩ := hr
      have h5 : (y.toList == x.toList) = false := by rw [← beq_toListBytes]; exact ba_beq_no h3
      clear h3
      have HS := St.start w
      go_enter Try.func90, Try.ntmps90
      go_wp2_with (first
            | ((with_reducible (show wpList _ _ _ (Oper.mk (some 2) (Op.alloc _) _ _ _ _ :: _) _ _)); refine wpList_alloc_st (o := ⟨some 2, .alloc _, _, _, _, _⟩) rfl _ rfl zc_impl_Desc HS ?_; clear HS; intro w2 b2 hb2 HS))
      refine wp_region_plan_st HS (.early 0 (.early 1 (.early 2 (.early 3 (.early 4 (.early 5 (.early 6 (.early 8 (.early 10 (.early 12 (.fork 7 1 (.fork 9 1 (.fork 11 1 (.fork 13 1 (.fork 14 1 (.forced 15 1 (.forced 16 2 .done)) 15 1 (.forced 14 2 (.forced 16 2 .done))) 15 1 (.forced 13 1 (.forced 14 2 (.forced 16 2 .done)))) 15 1 (.forced 11 1 (.forced 13 1 (.forced 14 2 (.forced 16 2 .done))))) 15 1 (.forced 9 1 (.forced 11 1 (.forced 13 1 (.forced 14 2 (.forced 16 2 .done)))))) 15 1 (.forced 7 1 (.forced 9 1 (.forced 11 1 (.forced 13 1 (.forced 14 2 (.forced 16 2 .done))))))))))))))))) (by kernel_rfl) (by as_aux_lemma => kernel_rfl) ?_
      intro hne
      replace HS := HS.drew
      try go_simp
      repeat' (first
        | (with_reducible refine wpPlan_fork ?_ ?_)
        | (with_reducible refine wpPlan_forced ?_)
        | ((with_reducible (first | (show wpPlan _ _ _ _ (.early 0 _) _ _) | (show wpPlan _ _ _ _ (.early 1 _) _ _) | (show wpPlan _ _ _ _ (.early 2 _) _ _) | (show wpPlan _ _ _ _ (.early 3 _) _ _) | (show wpPlan _ _ _ _ (.early 4 _) _ _) | (show wpPlan _ _ _ _ (.early 5 _) _ _) | (show wpPlan _ _ _ _ (.early 6 _) _ _) | (show wpPlan _ _ _ _ (.early 8 _) _ _) | (show wpPlan _ _ _ _ (.early 10 _) _ _) | (show wpPlan _ _ _ _ (.early 12 _) _ _))); (first | (refine wpPlan_skipE rfl rfl ?_; (try go_simp)) | (refine wpPlan_early rfl rfl ?_; intro K hK; (first | go_big_quiet_op); (first | go_big_quiet_on | (refine ⟨_, fun _ => rfl, ?_⟩; go_big_quiet_on)))))
        | ((with_reducible (first | (show wpOne _ _ _ _ 7 1 _ _ _) | (show wpOne _ _ _ _ 11 1 _ _ _) | (show wpOne _ _ _ _ 13 1 _ _ _))); (first | (refine wpOne_skip rfl rfl ?_; (try go_simp)) | (refine wpOne_1 rfl rfl ?_; intro K hK; go_simp; (first | (go_at_call 121; (with_reducible refine (get16_any x hs.out _ (by omega) _).mono ?_); rintro e w' ⟨rfl, hx⟩; replace HS := HS.grow hx; clear hx)); (try go_simp); refine hK _ _ ?_ ?_; (focus (exact stw HS)); clear hK K)))
        | ((with_reducible ((show wpOne _ _ _ _ 9 1 _ _ _))); (first | (refine wpOne_skip rfl rfl ?_; (try go_simp)) | (refine wpOne_1 rfl rfl ?_; intro K hK; go_simp; (first | (go_at_call 122; (with_reducible refine (get32_any x hs.out _ (by omega) _).mono ?_); rintro e w' ⟨rfl, hx⟩; replace HS := HS.grow hx; clear hx)); (try go_simp); refine hK _ _ ?_ ?_; (focus (exact stw HS)); clear hK K)))
        | ((with_reducible ((show wpOne _ _ _ _ 14 1 _ _ _))); (first | (refine wpOne_skip rfl rfl ?_; (try go_simp)) | (refine wpOne_1 rfl rfl ?_; intro K hK; go_simp; refine hK _ _ ?_ ?_; (focus (exact stw HS)); clear hK K)))
        | ((with_reducible ((show wpOne _ _ _ _ 15 1 _ _ _))); (first | (refine wpOne_skip rfl rfl ?_; (try go_simp)) | (refine wpOne_1 rfl rfl ?_; intro K hK; (first | (refine wp_alloc_st  _ rfl zc_impl_Desc HS ?_; clear HS; intro w4 b4 hb4 HS)); (try go_simp); refine hK _ _ ?_ ?_; (focus (exact stw HS)); clear hK K)))
        | ((with_reducible ((show wpOne _ _ _ _ 16 2 _ _ _))); (first | (refine wpOne_skip rfl rfl ?_; (try go_simp)) | (refine wpOne_2 rfl rfl ?_; intro K hK; (first | (refine wp_store_st  _ _ _ rfl rfl (v := .agg (List.toArray _)) rfl HS tk sz_impl_Desc vcs rfx rfx (by simp) ?_ rfl; clear HS; intro w3_16 hz3_16 HS; simp only [nicL, Value.cells, List.append_nil] at HS) | (refine wp_store_st  _ _ _ rfl rfl (v := .agg _) rfl HS tk sz_impl_Desc vcs rfx rfx (by simp) ?_ rfl; clear HS; intro w3_16 hz3_16 HS; simp only [nicL, Value.cells, List.append_nil] at HS)); (try go_simp); refine hK _ _ ?_; clear hK K)))
        | ((with_reducible ((show wpOne _ _ _ _ 14 2 _ _ _))); (first | (refine wpOne_skip rfl rfl ?_; (try go_simp)) | (refine wpOne_2 rfl rfl ?_; intro K hK; go_simp; refine hK _ _ ?_; clear hK K)))
        | (with_reducible refine wpPlan_done ?_))
      all_goals
        rw [B0.out, B1.out] at HS
        go_wp2_with (first
              | (go_at_call 102; (with_reducible refine (encodeDesc_any _ _ _ _ _ _ _).mono ?_); rintro e w' ⟨rfl, hx⟩; rw [HE.out]; replace HS := HS.grow hx; clear hx)
              | ((with_reducible (show wpList _ _ _ (Oper.mk none (Op.store _ (.tmp 2) _) _ _ _ _ :: _) _ _)); refine wpList_store_st (o := ⟨none, .store _ (.tmp 2) _, _, _, _, _⟩) rfl _ _ _ rfl rfl (v := .agg (List.toArray _)) rfl HS tk sz_impl_Desc vcs rfx rfx (by simp) ?_ rfl; clear HS; intro w2_1 hz2_1 HS; simp only [nicL, Value.cells, List.append_nil] at HS)
              | ((with_reducible (show wpList _ _ _ (Oper.mk (some 24) (Op.load _ _) _ _ _ _ :: _) _ _)); refine wpList_loadA_st (o := ⟨some 24, .load _ _, _, _, _, _⟩) rfl _ _ rfl rfl HS tk ag_impl_Desc lit rfl ?_))
        refine bodyPost_rets rfx (RVs.cell rfx HS tk ag_impl_Desc rfx (RVs.tmp rfx RVs.nil)) (by simp) rfx ?_
        exact ⟨rfl, HS.ex⟩
    case pos =>
      rw [if_pos h3] at hr
      unfold decX at hr
      simp only [Prod.mk.injEq] at hr
      obtain ⟨⟨rfl, rfl, rfl, rfl, rfl, rfl⟩, rfl⟩ := hr
      rw [h3] at HE
      have h6 : (x.toList == x.toList) = true := by rw [← beq_toListBytes]; exact ba_beq_self x
      clear h3
      have HS := St.start w
      go_enter Try.func90, Try.ntmps90
      go_wp2_with (first
            | ((with_reducible (show wpList _ _ _ (Oper.mk (some 2) (Op.alloc _) _ _ _ _ :: _) _ _)); refine wpList_alloc_st (o := ⟨some 2, .alloc _, _, _, _, _⟩) rfl _ rfl zc_impl_Desc HS ?_; clear HS; intro w2 b2 hb2 HS))
      refine wp_region_plan_st HS (.early 0 (.early 1 (.early 2 (.early 3 (.early 4 (.early 5 (.early 6 (.early 8 (.early 10 (.early 12 (.fork 7 1 (.fork 9 1 (.fork 11 1 (.fork 13 1 (.fork 14 1 (.forced 15 1 (.forced 16 2 .done)) 15 1 (.forced 14 2 (.forced 16 2 .done))) 15 1 (.forced 13 1 (.forced 14 2 (.forced 16 2 .done)))) 15 1 (.forced 11 1 (.forced 13 1 (.forced 14 2 (.forced 16 2 .done))))) 15 1 (.forced 9 1 (.forced 11 1 (.forced 13 1 (.forced 14 2 (.forced 16 2 .done)))))) 15 1 (.forced 7 1 (.forced 9 1 (.forced 11 1 (.forced 13 1 (.forced 14 2 (.forced 16 2 .done))))))))))))))))) (by kernel_rfl) (by as_aux_lemma => kernel_rfl) ?_
      intro hne
      replace HS := HS.drew
      try go_simp
      repeat' (first
        | (with_reducible refine wpPlan_fork ?_ ?_)
        | (with_reducible refine wpPlan_forced ?_)
        | ((with_reducible (first | (show wpPlan _ _ _ _ (.early 0 _) _ _) | (show wpPlan _ _ _ _ (.early 1 _) _ _) | (show wpPlan _ _ _ _ (.early 2 _) _ _) | (show wpPlan _ _ _ _ (.early 3 _) _ _) | (show wpPlan _ _ _ _ (.early 4 _) _ _) | (show wpPlan _ _ _ _ (.early 5 _) _ _) | (show wpPlan _ _ _ _ (.early 6 _) _ _) | (show wpPlan _ _ _ _ (.early 8 _) _ _) | (show wpPlan _ _ _ _ (.early 10 _) _ _) | (show wpPlan _ _ _ _ (.early 12 _) _ _))); (first | (refine wpPlan_skipE rfl rfl ?_; (try go_simp)) | (refine wpPlan_early rfl rfl ?_; intro K hK; (first | go_big_quiet_op); (first | go_big_quiet_on | (refine ⟨_, fun _ => rfl, ?_⟩; go_big_quiet_on)))))
        | ((with_reducible (first | (show wpOne _ _ _ _ 7 1 _ _ _) | (show wpOne _ _ _ _ 11 1 _ _ _) | (show wpOne _ _ _ _ 13 1 _ _ _))); (first | (refine wpOne_skip rfl rfl ?_; (try go_simp)) | (refine wpOne_1 rfl rfl ?_; intro K hK; go_simp; (first | (go_at_call 121; (with_reducible refine (get16_any x hs.out _ (by omega) _).mono ?_); rintro e w' ⟨rfl, hx⟩; replace HS := HS.grow hx; clear hx)); (try go_simp); refine hK _ _ ?_ ?_; (focus (exact stw HS)); clear hK K)))
        | ((with_reducible ((show wpOne _ _ _ _ 9 1 _ _ _))); (first | (refine wpOne_skip rfl rfl ?_; (try go_simp)) | (refine wpOne_1 rfl rfl ?_; intro K hK; go_simp; (first | (go_at_call 122; (with_reducible refine (get32_any x hs.out _ (by omega) _).mono ?_); rintro e w' ⟨rfl, hx⟩; replace HS := HS.grow hx; clear hx)); (try go_simp); refine hK _ _ ?_ ?_; (focus (exact stw HS)); clear hK K)))
        | ((with_reducible ((show wpOne _ _ _ _ 14 1 _ _ _))); (first | (refine wpOne_skip rfl rfl ?_; (try go_simp)) | (refine wpOne_1 rfl rfl ?_; intro K hK; go_simp; refine hK _ _ ?_ ?_; (focus (exact stw HS)); clear hK K)))
        | ((with_reducible ((show wpOne _ _ _ _ 15 1 _ _ _))); (first | (refine wpOne_skip rfl rfl ?_; (try go_simp)) | (refine wpOne_1 rfl rfl ?_; intro K hK; (first | (refine wp_alloc_st  _ rfl zc_impl_Desc HS ?_; clear HS; intro w4 b4 hb4 HS)); (try go_simp); refine hK _ _ ?_ ?_; (focus (exact stw HS)); clear hK K)))
        | ((with_reducible ((show wpOne _ _ _ _ 16 2 _ _ _))); (first | (refine wpOne_skip rfl rfl ?_; (try go_simp)) | (refine wpOne_2 rfl rfl ?_; intro K hK; (first | (refine wp_store_st  _ _ _ rfl rfl (v := .agg (List.toArray _)) rfl HS tk sz_impl_Desc vcs rfx rfx (by simp) ?_ rfl; clear HS; intro w3_16 hz3_16 HS; simp only [nicL, Value.cells, List.append_nil] at HS) | (refine wp_store_st  _ _ _ rfl rfl (v := .agg _) rfl HS tk sz_impl_Desc vcs rfx rfx (by simp) ?_ rfl; clear HS; intro w3_16 hz3_16 HS; simp only [nicL, Value.cells, List.append_nil] at HS)); (try go_simp); refine hK _ _ ?_; clear hK K)))
        | ((with_reducible ((show wpOne _ _ _ _ 14 2 _ _ _))); (first | (refine wpOne_skip rfl rfl ?_; (try go_simp)) | (refine wpOne_2 rfl rfl ?_; intro K hK; go_simp; refine hK _ _ ?_; clear hK K)))
        | (with_reducible refine wpPlan_done ?_))
      all_goals
        rw [B0.out, B1.out] at HS
        go_wp2_with (first
              | (go_at_call 102; (with_reducible refine (encodeDesc_any _ _ _ _ _ _ _).mono ?_); rintro e w' ⟨rfl, hx⟩; rw [HE.out]; replace HS := HS.grow hx; clear hx)
              | ((with_reducible (show wpList _ _ _ (Oper.mk none (Op.store _ (.tmp 2) _) _ _ _ _ :: _) _ _)); refine wpList_store_st (o := ⟨none, .store _ (.tmp 2) _, _, _, _, _⟩) rfl _ _ _ rfl rfl (v := .agg (List.toArray _)) rfl HS tk sz_impl_Desc vcs rfx rfx (by simp) ?_ rfl; clear HS; intro w2_1 hz2_1 HS; simp only [nicL, Value.cells, List.append_nil] at HS)
              | ((with_reducible (show wpList _ _ _ (Oper.mk (some 24) (Op.load _ _) _ _ _ _ :: _) _ _)); refine wpList_loadA_st (o := ⟨some 24, .load _ _, _, _, _, _⟩) rfl _ _ rfl rfl HS tk ag_impl_Desc lit rfl ?_)
              | ((with_reducible (show wpList _ _ _ (Oper.mk (some 29) (Op.load _ _) _ _ _ _ :: _) _ _)); refine wpList_loadA_st (o := ⟨some 29, .load _ _, _, _, _, _⟩) rfl _ _ rfl rfl HS tk ag_impl_Desc lit rfl ?_))
        refine bodyPost_rets rfx (RVs.cell rfx HS tk ag_impl_Desc rfx (RVs.tmp rfx RVs.nil)) (by simp) rfx ?_
        exact ⟨rfl, HS.ex⟩

set_option maxRecDepth 100000 in
set_option maxHeartbeats 4000000 in
theorem decodeDescS_any (x : ByteArray) (w : World) (hs : x.size ≤ 9223372036854775807) {op fl ln at_ sz ck : Int} {ok : Bool} (hr : ((op, fl, ln, at_, sz, ck), ok) = decDF x) :
    Calls Try.prog 86 #[.string x] w fun e w' => e = .returned (.tuple #[.agg #[.int .i64 op, .int .i64 fl, .int .i64 ln, .int .i64 at_, .int .i64 sz, .int .i64 ck], .bool ok]) ∧ Ex w w' := by
  replace hs := hid hs
  unfold decDF at hr
  by_cases h1 : x.size = 16
  case neg =>
    rw [if_neg h1] at hr
    simp only [Prod.mk.injEq] at hr
    obtain ⟨⟨rfl, rfl, rfl, rfl, rfl, rfl⟩, rfl⟩ := hr
    have h2 : ((x.size : Int) != 16) = true := by simp; omega
    clear h1
    have HS := St.start w
    go_enter Try.func86, Try.ntmps86
    go_wp2_with (first
          | ((with_reducible (show wpList _ _ _ (Oper.mk (some 2) (Op.alloc _) _ _ _ _ :: _) _ _)); refine wpList_alloc_st (o := ⟨some 2, .alloc _, _, _, _, _⟩) rfl _ rfl zc_impl_Desc HS ?_; clear HS; intro w2 b2 hb2 HS)
          | ((with_reducible (show wpList _ _ _ (Oper.mk none (Op.store _ (.tmp 2) _) _ _ _ _ :: _) _ _)); refine wpList_store_st (o := ⟨none, .store _ (.tmp 2) _, _, _, _, _⟩) rfl _ _ _ rfl rfl (v := .agg (List.toArray _)) rfl HS tk sz_impl_Desc vcs rfx rfx (by simp) ?_ rfl; clear HS; intro w2_1 hz2_1 HS; simp only [nicL, Value.cells, List.append_nil] at HS))
    refine bodyPost_rets rfx (RVs.cell rfx HS tk ag_impl_Desc rfx (RVs.tmp rfx RVs.nil)) (by simp) rfx ?_
    exact ⟨rfl, HS.ex⟩
  case pos =>
    rw [if_pos h1] at hr
    have h2 : ((x.size : Int) != 16) = false := by simp; omega
    have a0 : 0 < x.size := by omega
    have a1 : 1 < x.size := by omega
    have r1 : (1 : Int) < x.size := by omega
    have r0 : (0 : Int) < x.size := by omega
    clear h1
    obtain ⟨y, hy⟩ : ∃ y, encDF (bAt x 0) (bAt x 1) (get16 x 2) (get32 x 4) (get16 x 8) (get16 x 10) = y := ⟨_, rfl⟩
    rw [hy] at hr
    have HE := hid hy
    clear hy
    have B0 := hid (bAt_eq a0)
    have B1 := hid (bAt_eq a1)
    by_cases h3 : y = x
    case neg =>
      rw [if_neg h3] at hr
      simp only [Prod.mk.injEq] at hr
      obtain ⟨⟨rfl, rfl, rfl, rfl, rfl, rfl⟩, rfl⟩ := hr
      have h5 : (y.toList == x.toList) = false := by rw [← beq_toListBytes]; exact ba_beq_no h3
      clear h3
      have HS := St.start w
      go_enter Try.func86, Try.ntmps86
      go_wp2_with (first
            | ((with_reducible (show wpList _ _ _ (Oper.mk (some 2) (Op.alloc _) _ _ _ _ :: _) _ _)); refine wpList_alloc_st (o := ⟨some 2, .alloc _, _, _, _, _⟩) rfl _ rfl zc_impl_Desc HS ?_; clear HS; intro w2 b2 hb2 HS))
      refine wp_region_plan_st HS (.early 0 (.early 1 (.early 2 (.early 3 (.early 4 (.early 5 (.early 6 (.early 8 (.early 10 (.early 12 (.fork 7 1 (.fork 9 1 (.fork 11 1 (.fork 13 1 (.fork 14 1 (.forced 15 1 (.forced 16 2 .done)) 15 1 (.forced 14 2 (.forced 16 2 .done))) 15 1 (.forced 13 1 (.forced 14 2 (.forced 16 2 .done)))) 15 1 (.forced 11 1 (.forced 13 1 (.forced 14 2 (.forced 16 2 .done))))) 15 1 (.forced 9 1 (.forced 11 1 (.forced 13 1 (.forced 14 2 (.forced 16 2 .done)))))) 15 1 (.forced 7 1 (.forced 9 1 (.forced 11 1 (.forced 13 1 (.forced 14 2 (.forced 16 2 .done))))))))))))))))) (by kernel_rfl) (by as_aux_lemma => kernel_rfl) ?_
      intro hne
      replace HS := HS.drew
      try go_simp
      repeat' (first
        | (with_reducible refine wpPlan_fork ?_ ?_)
        | (with_reducible refine wpPlan_forced ?_)
        | ((with_reducible (first | (show wpPlan _ _ _ _ (.early 0 _) _ _) | (show wpPlan _ _ _ _ (.early 1 _) _ _) | (show wpPlan _ _ _ _ (.early 2 _) _ _) | (show wpPlan _ _ _ _ (.early 3 _) _ _) | (show wpPlan _ _ _ _ (.early 4 _) _ _) | (show wpPlan _ _ _ _ (.early 5 _) _ _) | (show wpPlan _ _ _ _ (.early 6 _) _ _) | (show wpPlan _ _ _ _ (.early 8 _) _ _) | (show wpPlan _ _ _ _ (.early 10 _) _ _) | (show wpPlan _ _ _ _ (.early 12 _) _ _))); (first | (refine wpPlan_skipE rfl rfl ?_; (try go_simp)) | (refine wpPlan_early rfl rfl ?_; intro K hK; (first | go_big_quiet_op); (first | go_big_quiet_on | (refine ⟨_, fun _ => rfl, ?_⟩; go_big_quiet_on)))))
        | ((with_reducible (first | (show wpOne _ _ _ _ 7 1 _ _ _) | (show wpOne _ _ _ _ 11 1 _ _ _) | (show wpOne _ _ _ _ 13 1 _ _ _))); (first | (refine wpOne_skip rfl rfl ?_; (try go_simp)) | (refine wpOne_1 rfl rfl ?_; intro K hK; go_simp; (first | (go_at_call 128; (with_reducible refine (get16S_any x hs.out _ (by omega) _).mono ?_); rintro e w' ⟨rfl, hx⟩; replace HS := HS.grow hx; clear hx)); (try go_simp); refine hK _ _ ?_ ?_; (focus (exact stw HS)); clear hK K)))
        | ((with_reducible ((show wpOne _ _ _ _ 9 1 _ _ _))); (first | (refine wpOne_skip rfl rfl ?_; (try go_simp)) | (refine wpOne_1 rfl rfl ?_; intro K hK; go_simp; (first | (go_at_call 127; (with_reducible refine (get32S_any x hs.out _ (by omega) _).mono ?_); rintro e w' ⟨rfl, hx⟩; replace HS := HS.grow hx; clear hx)); (try go_simp); refine hK _ _ ?_ ?_; (focus (exact stw HS)); clear hK K)))
        | ((with_reducible ((show wpOne _ _ _ _ 14 1 _ _ _))); (first | (refine wpOne_skip rfl rfl ?_; (try go_simp)) | (refine wpOne_1 rfl rfl ?_; intro K hK; go_simp; refine hK _ _ ?_ ?_; (focus (exact stw HS)); clear hK K)))
        | ((with_reducible ((show wpOne _ _ _ _ 15 1 _ _ _))); (first | (refine wpOne_skip rfl rfl ?_; (try go_simp)) | (refine wpOne_1 rfl rfl ?_; intro K hK; (first | (refine wp_alloc_st  _ rfl zc_impl_Desc HS ?_; clear HS; intro w4 b4 hb4 HS)); (try go_simp); refine hK _ _ ?_ ?_; (focus (exact stw HS)); clear hK K)))
        | ((with_reducible ((show wpOne _ _ _ _ 16 2 _ _ _))); (first | (refine wpOne_skip rfl rfl ?_; (try go_simp)) | (refine wpOne_2 rfl rfl ?_; intro K hK; (first | (refine wp_store_st  _ _ _ rfl rfl (v := .agg (List.toArray _)) rfl HS tk sz_impl_Desc vcs rfx rfx (by simp) ?_ rfl; clear HS; intro w3_16 hz3_16 HS; simp only [nicL, Value.cells, List.append_nil] at HS) | (refine wp_store_st  _ _ _ rfl rfl (v := .agg _) rfl HS tk sz_impl_Desc vcs rfx rfx (by simp) ?_ rfl; clear HS; intro w3_16 hz3_16 HS; simp only [nicL, Value.cells, List.append_nil] at HS)); (try go_simp); refine hK _ _ ?_; clear hK K)))
        | ((with_reducible ((show wpOne _ _ _ _ 14 2 _ _ _))); (first | (refine wpOne_skip rfl rfl ?_; (try go_simp)) | (refine wpOne_2 rfl rfl ?_; intro K hK; go_simp; refine hK _ _ ?_; clear hK K)))
        | (with_reducible refine wpPlan_done ?_))
      all_goals
        rw [B0.out, B1.out] at HS
        go_wp2_with (first
              | (go_at_call 97; (with_reducible refine (encodeDescS_any _ _ _ _ _ _ _).mono ?_); rintro e w' ⟨rfl, hx⟩; rw [HE.out]; replace HS := HS.grow hx; clear hx)
              | ((with_reducible (show wpList _ _ _ (Oper.mk none (Op.store _ (.tmp 2) _) _ _ _ _ :: _) _ _)); refine wpList_store_st (o := ⟨none, .store _ (.tmp 2) _, _, _, _, _⟩) rfl _ _ _ rfl rfl (v := .agg (List.toArray _)) rfl HS tk sz_impl_Desc vcs rfx rfx (by simp) ?_ rfl; clear HS; intro w2_1 hz2_1 HS; simp only [nicL, Value.cells, List.append_nil] at HS)
              | ((with_reducible (show wpList _ _ _ (Oper.mk (some 24) (Op.load _ _) _ _ _ _ :: _) _ _)); refine wpList_loadA_st (o := ⟨some 24, .load _ _, _, _, _, _⟩) rfl _ _ rfl rfl HS tk ag_impl_Desc lit rfl ?_))
        refine bodyPost_rets rfx (RVs.cell rfx HS tk ag_impl_Desc rfx (RVs.tmp rfx RVs.nil)) (by simp) rfx ?_
        exact ⟨rfl, HS.ex⟩
    case pos =>
      rw [if_pos h3] at hr
      unfold decX at hr
      simp only [Prod.mk.injEq] at hr
      obtain ⟨⟨rfl, rfl, rfl, rfl, rfl, rfl⟩, rfl⟩ := hr
      rw [h3] at HE
      have h6 : (x.toList == x.toList) = true := by rw [← beq_toListBytes]; exact ba_beq_self x
      clear h3
      have HS := St.start w
      go_enter Try.func86, Try.ntmps86
      go_wp2_with (first
            | ((with_reducible (show wpList _ _ _ (Oper.mk (some 2) (Op.alloc _) _ _ _ _ :: _) _ _)); refine wpList_alloc_st (o := ⟨some 2, .alloc _, _, _, _, _⟩) rfl _ rfl zc_impl_Desc HS ?_; clear HS; intro w2 b2 hb2 HS))
      refine wp_region_plan_st HS (.early 0 (.early 1 (.early 2 (.early 3 (.early 4 (.early 5 (.early 6 (.early 8 (.early 10 (.early 12 (.fork 7 1 (.fork 9 1 (.fork 11 1 (.fork 13 1 (.fork 14 1 (.forced 15 1 (.forced 16 2 .done)) 15 1 (.forced 14 2 (.forced 16 2 .done))) 15 1 (.forced 13 1 (.forced 14 2 (.forced 16 2 .done)))) 15 1 (.forced 11 1 (.forced 13 1 (.forced 14 2 (.forced 16 2 .done))))) 15 1 (.forced 9 1 (.forced 11 1 (.forced 13 1 (.forced 14 2 (.forced 16 2 .done)))))) 15 1 (.forced 7 1 (.forced 9 1 (.forced 11 1 (.forced 13 1 (.forced 14 2 (.forced 16 2 .done))))))))))))))))) (by kernel_rfl) (by as_aux_lemma => kernel_rfl) ?_
      intro hne
      replace HS := HS.drew
      try go_simp
      repeat' (first
        | (with_reducible refine wpPlan_fork ?_ ?_)
        | (with_reducible refine wpPlan_forced ?_)
        | ((with_reducible (first | (show wpPlan _ _ _ _ (.early 0 _) _ _) | (show wpPlan _ _ _ _ (.early 1 _) _ _) | (show wpPlan _ _ _ _ (.early 2 _) _ _) | (show wpPlan _ _ _ _ (.early 3 _) _ _) | (show wpPlan _ _ _ _ (.early 4 _) _ _) | (show wpPlan _ _ _ _ (.early 5 _) _ _) | (show wpPlan _ _ _ _ (.early 6 _) _ _) | (show wpPlan _ _ _ _ (.early 8 _) _ _) | (show wpPlan _ _ _ _ (.early 10 _) _ _) | (show wpPlan _ _ _ _ (.early 12 _) _ _))); (first | (refine wpPlan_skipE rfl rfl ?_; (try go_simp)) | (refine wpPlan_early rfl rfl ?_; intro K hK; (first | go_big_quiet_op); (first | go_big_quiet_on | (refine ⟨_, fun _ => rfl, ?_⟩; go_big_quiet_on)))))
        | ((with_reducible (first | (show wpOne _ _ _ _ 7 1 _ _ _) | (show wpOne _ _ _ _ 11 1 _ _ _) | (show wpOne _ _ _ _ 13 1 _ _ _))); (first | (refine wpOne_skip rfl rfl ?_; (try go_simp)) | (refine wpOne_1 rfl rfl ?_; intro K hK; go_simp; (first | (go_at_call 128; (with_reducible refine (get16S_any x hs.out _ (by omega) _).mono ?_); rintro e w' ⟨rfl, hx⟩; replace HS := HS.grow hx; clear hx)); (try go_simp); refine hK _ _ ?_ ?_; (focus (exact stw HS)); clear hK K)))
        | ((with_reducible ((show wpOne _ _ _ _ 9 1 _ _ _))); (first | (refine wpOne_skip rfl rfl ?_; (try go_simp)) | (refine wpOne_1 rfl rfl ?_; intro K hK; go_simp; (first | (go_at_call 127; (with_reducible refine (get32S_any x hs.out _ (by omega) _).mono ?_); rintro e w' ⟨rfl, hx⟩; replace HS := HS.grow hx; clear hx)); (try go_simp); refine hK _ _ ?_ ?_; (focus (exact stw HS)); clear hK K)))
        | ((with_reducible ((show wpOne _ _ _ _ 14 1 _ _ _))); (first | (refine wpOne_skip rfl rfl ?_; (try go_simp)) | (refine wpOne_1 rfl rfl ?_; intro K hK; go_simp; refine hK _ _ ?_ ?_; (focus (exact stw HS)); clear hK K)))
        | ((with_reducible ((show wpOne _ _ _ _ 15 1 _ _ _))); (first | (refine wpOne_skip rfl rfl ?_; (try go_simp)) | (refine wpOne_1 rfl rfl ?_; intro K hK; (first | (refine wp_alloc_st  _ rfl zc_impl_Desc HS ?_; clear HS; intro w4 b4 hb4 HS)); (try go_simp); refine hK _ _ ?_ ?_; (focus (exact stw HS)); clear hK K)))
        | ((with_reducible ((show wpOne _ _ _ _ 16 2 _ _ _))); (first | (refine wpOne_skip rfl rfl ?_; (try go_simp)) | (refine wpOne_2 rfl rfl ?_; intro K hK; (first | (refine wp_store_st  _ _ _ rfl rfl (v := .agg (List.toArray _)) rfl HS tk sz_impl_Desc vcs rfx rfx (by simp) ?_ rfl; clear HS; intro w3_16 hz3_16 HS; simp only [nicL, Value.cells, List.append_nil] at HS) | (refine wp_store_st  _ _ _ rfl rfl (v := .agg _) rfl HS tk sz_impl_Desc vcs rfx rfx (by simp) ?_ rfl; clear HS; intro w3_16 hz3_16 HS; simp only [nicL, Value.cells, List.append_nil] at HS)); (try go_simp); refine hK _ _ ?_; clear hK K)))
        | ((with_reducible ((show wpOne _ _ _ _ 14 2 _ _ _))); (first | (refine wpOne_skip rfl rfl ?_; (try go_simp)) | (refine wpOne_2 rfl rfl ?_; intro K hK; go_simp; refine hK _ _ ?_; clear hK K)))
        | (with_reducible refine wpPlan_done ?_))
      all_goals
        rw [B0.out, B1.out] at HS
        go_wp2_with (first
              | (go_at_call 97; (with_reducible refine (encodeDescS_any _ _ _ _ _ _ _).mono ?_); rintro e w' ⟨rfl, hx⟩; rw [HE.out]; replace HS := HS.grow hx; clear hx)
              | ((with_reducible (show wpList _ _ _ (Oper.mk none (Op.store _ (.tmp 2) _) _ _ _ _ :: _) _ _)); refine wpList_store_st (o := ⟨none, .store _ (.tmp 2) _, _, _, _, _⟩) rfl _ _ _ rfl rfl (v := .agg (List.toArray _)) rfl HS tk sz_impl_Desc vcs rfx rfx (by simp) ?_ rfl; clear HS; intro w2_1 hz2_1 HS; simp only [nicL, Value.cells, List.append_nil] at HS)
              | ((with_reducible (show wpList _ _ _ (Oper.mk (some 24) (Op.load _ _) _ _ _ _ :: _) _ _)); refine wpList_loadA_st (o := ⟨some 24, .load _ _, _, _, _, _⟩) rfl _ _ rfl rfl HS tk ag_impl_Desc lit rfl ?_)
              | ((with_reducible (show wpList _ _ _ (Oper.mk (some 29) (Op.load _ _) _ _ _ _ :: _) _ _)); refine wpList_loadA_st (o := ⟨some 29, .load _ _, _, _, _, _⟩) rfl _ _ rfl rfl HS tk ag_impl_Desc lit rfl ?_))
        refine bodyPost_rets rfx (RVs.cell rfx HS tk ag_impl_Desc rfx (RVs.tmp rfx RVs.nil)) (by simp) rfx ?_
        exact ⟨rfl, HS.ex⟩

end Go.Proofs.Ytelkplponnfkpaa
