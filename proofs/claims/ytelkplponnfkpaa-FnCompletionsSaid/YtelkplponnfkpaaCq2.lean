/- Completion queues: NextCompletion: the program and the reference. -/
import Derived.Test.YtelkplponnfkpaaRows
import Derived.Test.YtelkplponnfkpaaCq
import Derived.Test.YtelkplponnfkpaaTk
namespace Go.Proofs.Ytelkplponnfkpaa
open Go.RowKit
set_option linter.unusedVariables false
set_option linter.unusedSimpArgs false

set_option maxRecDepth 100000 in
set_option maxHeartbeats 4000000 in
theorem nextCompletion_any (v1 v2 : Value) (l : List Mp) (ps : Pg) (d b s c : Int) (w : World) (k1 : Holds w l [v1]) (k2 : Holds w ps [v2]) (hd : i64ok d) {x1 x2 x3 x4 x5 c2 : Int} {ok : Bool} (hr : ((x1, x2, x3, x4, x5), c2, ok) = nextF l ps d b s c) :
    Calls Try.prog 14 #[v1, .agg #[v2], .int .i64 d, .agg #[.int .i64 b, .int .i64 s, .int .i64 c]] w fun e w' => e = .returned (.tuple #[.agg #[.int .i64 x1, .int .i64 x2, .int .i64 x3, .int .i64 x4, .int .i64 x5], .agg #[.int .i64 b, .int .i64 s, .int .i64 c2], .bool ok]) ∧ Ex w w' := by
  obtain ⟨AA, cap, rfl, z1, z2⟩ := k1.fl
  unfold maxLen at z2
  obtain ⟨BB, cap2, rfl, y1, y2⟩ := k2.fl
  unfold maxLen at y2
  replace hd := hid hd
  cases hq : queueOkB b s c
  case false =>
    have HQ := hid hq
    unfold nextF at hr
    rw [hq, if_neg (by decide)] at hr
    simp only [Prod.mk.injEq] at hr
    obtain ⟨⟨e1, e2, e3, e4, e5⟩, e6, rfl⟩ := hr
    subst e1
    subst e2
    subst e3
    subst e4
    subst e5
    replace e6 := e6.symm
    subst e6
    clear hq
    have HS := St.start w
    go_enter Try.func14, Try.ntmps14
    go_wp2_with (first
          | (go_at_call 15; (with_reducible refine (queueOk_any b s c _).mono ?_); rintro e w' ⟨rfl, hx⟩; rw [HQ.out]; replace HS := HS.grow hx; clear hx)
          | ((with_reducible (show wpList _ _ _ (Oper.mk (some 5) (Op.box _ _) _ _ _ _ :: _) _ _)); refine wpList_box_st (o := ⟨some 5, .box _ _, _, _, _, _⟩) rfl _ _ rfl (v := .agg (List.toArray _)) rfl HS ?_; clear HS; intro w5 b5 hb5 HS; simp only [Value.cells] at HS)
          | ((with_reducible (show wpList _ _ _ (Oper.mk (some 7) (Op.box _ _) _ _ _ _ :: _) _ _)); refine wpList_box_st (o := ⟨some 7, .box _ _, _, _, _, _⟩) rfl _ _ rfl (v := .agg (List.toArray _)) rfl HS ?_; clear HS; intro w7 b7 hb7 HS; simp only [Value.cells] at HS)
          | ((with_reducible (show wpList _ _ _ (Oper.mk (some 8) (Op.alloc _) _ _ _ _ :: _) _ _)); refine wpList_alloc_st (o := ⟨some 8, .alloc _, _, _, _, _⟩) rfl _ rfl zc_impl_Completion HS ?_; clear HS; intro w8 b8 hb8 HS)
          | ((with_reducible (show wpList _ _ _ (Oper.mk (some 9) (Op.alloc _) _ _ _ _ :: _) _ _)); refine wpList_alloc_st (o := ⟨some 9, .alloc _, _, _, _, _⟩) rfl _ rfl zc_impl_CompletionQueue HS ?_; clear HS; intro w9 b9 hb9 HS)
          | ((with_reducible (show wpList _ _ _ (Oper.mk (some 15) (Op.load _ _) _ _ _ _ :: _) _ _)); refine wpList_loadA_st (o := ⟨some 15, .load _ _, _, _, _, _⟩) rfl _ _ rfl rfl HS tk ag_impl_CompletionQueue lit rfl ?_))
    refine wp_region_plan_st (HS.arr (show Arr _ [rowA b7 _ _] from ary)) (.early 1 (.forced 0 1 (.forced 2 1 (.forced 3 2 (.forced 4 2 .done))))) (by kernel_rfl) (by as_aux_lemma => kernel_rfl) ?_
    intro hne
    replace HS := HS.drew
    try go_simp
    repeat' (first
      | (with_reducible refine wpPlan_forced ?_)
      | ((with_reducible ((show wpPlan _ _ _ _ (.early 1 _) _ _))); (first | (refine wpPlan_skipE rfl rfl ?_; (try go_simp)) | (refine wpPlan_early rfl rfl ?_; intro K hK; (first | ((refine quiet_loadA_st  _ _ rfl rfl tk ag_impl_CompletionQueue lit rfl ?_); (try go_simp)) | go_big_quiet_op); (first | go_big_quiet_on | (refine ⟨_, fun _ => rfl, ?_⟩; go_big_quiet_on)))))
      | ((with_reducible ((show wpOne _ _ _ _ 0 1 _ _ _))); (first | (refine wpOne_skip rfl rfl ?_; (try go_simp)) | (refine wpOne_1 rfl rfl ?_; intro K hK; go_simp; refine hK _ _ ?_ ?_; (focus (exact stw HS)); clear hK K)))
      | ((with_reducible ((show wpOne _ _ _ _ 2 1 _ _ _))); (first | (refine wpOne_skip rfl rfl ?_; (try go_simp)) | (refine wpOne_1 rfl rfl ?_; intro K hK; (first | (refine wp_store_st  _ _ _ rfl rfl (v := .agg (List.toArray _)) rfl HS tk sz_impl_Completion vcs rfx rfx (by simp) ?_ rfl; clear HS; intro w2_2 hz2_2 HS; simp only [nicL, Value.cells, List.append_nil] at HS) | (refine wp_store_st  _ _ _ rfl rfl (v := .agg _) rfl HS tk sz_impl_Completion vcs rfx rfx (by simp) ?_ rfl; clear HS; intro w2_2 hz2_2 HS; simp only [nicL, Value.cells, List.append_nil] at HS)); (try go_simp); refine hK _ _ ?_ ?_; (focus (exact stw HS)); clear hK K)))
      | ((with_reducible ((show wpOne _ _ _ _ 3 2 _ _ _))); (first | (refine wpOne_skip rfl rfl ?_; (try go_simp)) | (refine wpOne_2 rfl rfl ?_; intro K hK; (first | (refine wp_store_st  _ _ _ rfl rfl (v := .agg (List.toArray _)) rfl HS tk sz_impl_CompletionQueue vcs rfx rfx (by simp) ?_ rfl; clear HS; intro w2_3 hz2_3 HS; simp only [nicL, Value.cells, List.append_nil] at HS) | (refine wp_store_st  _ _ _ rfl rfl (v := .agg _) rfl HS tk sz_impl_CompletionQueue vcs rfx rfx (by simp) ?_ rfl; clear HS; intro w2_3 hz2_3 HS; simp only [nicL, Value.cells, List.append_nil] at HS)); (try go_simp); refine hK _ _ ?_; clear hK K)))
      | ((with_reducible ((show wpOne _ _ _ _ 4 2 _ _ _))); (first | (refine wpOne_skip rfl rfl ?_; (try go_simp)) | (refine wpOne_2 rfl rfl ?_; intro K hK; go_simp; refine hK _ _ ?_; clear hK K)))
      | (with_reducible refine wpPlan_done ?_))
    go_wp2
    refine bodyPost_rets rfx (RVs.cell rfx HS tk ag_impl_Completion rfx (RVs.cell rfx HS tk ag_impl_CompletionQueue rfx (RVs.tmp rfx RVs.nil))) (by simp) rfx ?_
    exact ⟨rfl, HS.ex⟩
  case true =>
  have HQ := hid hq
  obtain ⟨sb0, sb1⟩ := slotC_bd hq
  obtain ⟨ph0, ph1⟩ := phaseC_bd s c
  have HSI : Hid (i64ok (slotC b s c)) := hid (by first | (unfold i64ok; omega) | (unfold slotC at sb0 sb1; unfold i64ok; omega))
  unfold nextF at hr
  rw [hq, if_pos rfl] at hr
  obtain ⟨b0, b1, hs, c0, c1⟩ := queueOk_facts hq
  have q1 : c.tmod s = c % s := Int.tmod_eq_emod_of_nonneg c0
  have m0 := Int.emod_nonneg c (show s ≠ 0 by omega)
  have m1 := Int.emod_lt_of_pos c (show 0 < s by omega)
  have sz : s ≠ 0 := by omega
  have s2 : s ≤ 16 := by omega
  have w3 : IntKind.i64.wrap (16 * (c % s)) = 16 * (c % s) := IntWalk.i64_in _ (by omega)
  have w4 : IntKind.i64.wrap (b + 16 * (c % s)) = b + 16 * (c % s) := IntWalk.i64_in _ (by omega)
  have sz2 : (s == 0) = false := by simp [sz]
  obtain ⟨⟨t, k⟩, hD⟩ : ∃ r, r = dmaRF l ps d (slotC b s c) 16 := ⟨_, rfl⟩
  rw [← hD] at hr
  have HD : Hid ((t, k) = dmaRF l ps d (slotC b s c) 16) := hid (by first | exact hD | (rw [show b + 16 * (c % s) = slotC b s c from by unfold slotC; omega]; exact hD))
  obtain ⟨ph, hph⟩ : ∃ p, phaseC s c = p := ⟨_, rfl⟩
  rw [hph] at ph0 ph1 hr
  have HPH := hid hph
  clear hq sb0 sb1 hs hph
  cases k
  case false =>
    simp only [Prod.mk.injEq] at hr
    obtain ⟨⟨e1, e2, e3, e4, e5⟩, e6, rfl⟩ := hr
    subst e1
    subst e2
    subst e3
    subst e4
    subst e5
    replace e6 := e6.symm
    subst e6
    obtain rfl := dmaRF_none hD
    clear hD
    have HS := St.start w
    go_enter Try.func14, Try.ntmps14
    go_wp2_with (first
          | (go_at_call 15; (with_reducible refine (queueOk_any b s c _).mono ?_); rintro e w' ⟨rfl, hx⟩; rw [HQ.out]; replace HS := HS.grow hx; clear hx)
          | ((with_reducible (show wpList _ _ _ (Oper.mk (some 5) (Op.box _ _) _ _ _ _ :: _) _ _)); refine wpList_box_st (o := ⟨some 5, .box _ _, _, _, _, _⟩) rfl _ _ rfl (v := .agg (List.toArray _)) rfl HS ?_; clear HS; intro w5 b5 hb5 HS; simp only [Value.cells] at HS)
          | ((with_reducible (show wpList _ _ _ (Oper.mk (some 7) (Op.box _ _) _ _ _ _ :: _) _ _)); refine wpList_box_st (o := ⟨some 7, .box _ _, _, _, _, _⟩) rfl _ _ rfl (v := .agg (List.toArray _)) rfl HS ?_; clear HS; intro w7 b7 hb7 HS; simp only [Value.cells] at HS)
          | ((with_reducible (show wpList _ _ _ (Oper.mk (some 8) (Op.alloc _) _ _ _ _ :: _) _ _)); refine wpList_alloc_st (o := ⟨some 8, .alloc _, _, _, _, _⟩) rfl _ rfl zc_impl_Completion HS ?_; clear HS; intro w8 b8 hb8 HS)
          | ((with_reducible (show wpList _ _ _ (Oper.mk (some 9) (Op.alloc _) _ _ _ _ :: _) _ _)); refine wpList_alloc_st (o := ⟨some 9, .alloc _, _, _, _, _⟩) rfl _ rfl zc_impl_CompletionQueue HS ?_; clear HS; intro w9 b9 hb9 HS)
          | ((with_reducible (show wpList _ _ _ (Oper.mk (some 15) (Op.load _ _) _ _ _ _ :: _) _ _)); refine wpList_loadA_st (o := ⟨some 15, .load _ _, _, _, _, _⟩) rfl _ _ rfl rfl HS tk ag_impl_CompletionQueue lit rfl ?_))
    refine wp_region_plan_st HS (.early 0 (.early 1 (.early 2 (.forced 3 1 (.forced 4 1 (.forced 5 2 (.forced 6 2 (.pure 7 (.pure 8 (.forced 9 2 (.forced 10 2 .done))))))))))) (by kernel_rfl) (by as_aux_lemma => kernel_rfl) ?_
    intro hne
    replace HS := HS.drew
    try go_simp
    repeat' (first
      | (with_reducible refine wpPlan_forced ?_)
      | ((with_reducible (first | (show wpPlan _ _ _ _ (.early 0 _) _ _) | (show wpPlan _ _ _ _ (.early 2 _) _ _))); (first | (refine wpPlan_skipE rfl rfl ?_; (try go_simp)) | (refine wpPlan_early rfl rfl ?_; intro K hK; (first | go_big_quiet_op); (first | go_big_quiet_on | (refine ⟨_, fun _ => rfl, ?_⟩; go_big_quiet_on)))))
      | ((with_reducible ((show wpPlan _ _ _ _ (.early 1 _) _ _))); (first | (refine wpPlan_skipE rfl rfl ?_; (try go_simp)) | (refine wpPlan_early rfl rfl ?_; intro K hK; (first | ((refine quiet_loadA_st  _ _ rfl rfl tk ag_impl_Memory lit rfl ?_); (try go_simp)) | go_big_quiet_op); (first | go_big_quiet_on | (refine ⟨_, fun _ => rfl, ?_⟩; go_big_quiet_on)))))
      | ((with_reducible ((show wpOne _ _ _ _ 3 1 _ _ _))); (first | (refine wpOne_skip rfl rfl ?_; (try go_simp)) | (refine wpOne_1 rfl rfl ?_; intro K hK; (first | (refine wp_loadA_st  _ _ rfl rfl HS tk ag_impl_CompletionQueue lit rfl ?_)); (try go_simp); refine hK _ _ ?_ ?_; (focus (exact stw HS)); clear hK K)))
      | ((with_reducible ((show wpOne _ _ _ _ 4 1 _ _ _))); (first | (refine wpOne_skip rfl rfl ?_; (try go_simp)) | (refine wpOne_1 rfl rfl ?_; intro K hK; go_simp; (first | (go_at_call 57; (with_reducible refine (slotOfCount_any b s c _ HQ.out).mono ?_); rintro e w' ⟨rfl, hx⟩; replace HS := HS.grow hx; clear hx)); (try go_simp); refine hK _ _ ?_ ?_; (focus (exact stw HS)); clear hK K)))
      | ((with_reducible ((show wpOne _ _ _ _ 5 2 _ _ _))); (first | (refine wpOne_skip rfl rfl ?_; (try go_simp)) | (refine wpOne_2 rfl rfl ?_; intro K hK; go_simp; (first | (go_at_call 60; (with_reducible refine (dmaRead_any _ _ l ps d (slotC b s c) 16 _ (k1.ex HS.ex) (k2.ex HS.ex) hd.out HSI.out (by unfold i64ok; omega) HD.out).mono ?_); rintro e w' ⟨rfl, hx⟩; replace HS := HS.grow hx; clear hx)); (try go_simp); refine hK _ _ ?_; clear hK K)))
      | ((with_reducible (first | (show wpOne _ _ _ _ 6 2 _ _ _) | (show wpOne _ _ _ _ 9 2 _ _ _) | (show wpOne _ _ _ _ 10 2 _ _ _))); (first | (refine wpOne_skip rfl rfl ?_; (try go_simp)) | (refine wpOne_2 rfl rfl ?_; intro K hK; go_simp; refine hK _ _ ?_; clear hK K)))
      | ((with_reducible ((show wpPlan _ _ _ _ (.pure _ _) _ _))); (first | (refine wpPlan_skipP rfl rfl ?_; (try go_simp)) | (refine wpPlan_pure rfl rfl ?_; intro K hK; go_big_quiet_op; (first | go_big_quiet_on | (refine ⟨_, fun _ => rfl, ?_⟩; go_big_quiet_on)))))
      | (with_reducible refine wpPlan_done ?_))
    all_goals
      go_wp2
      refine wp_region_plan_st (HS.arr (show Arr _ [rowA b7 _ _] from ary)) (.early 1 (.forced 0 1 (.forced 2 1 (.forced 3 2 (.forced 4 2 .done))))) (by kernel_rfl) (by as_aux_lemma => kernel_rfl) ?_
      intro hne
      replace HS := HS.drew
      try go_simp
      repeat' (first
        | (with_reducible refine wpPlan_forced ?_)
        | ((with_reducible ((show wpPlan _ _ _ _ (.early 1 _) _ _))); (first | (refine wpPlan_skipE rfl rfl ?_; (try go_simp)) | (refine wpPlan_early rfl rfl ?_; intro K hK; (first | ((refine quiet_loadA_st  _ _ rfl rfl tk ag_impl_CompletionQueue lit rfl ?_); (try go_simp)) | go_big_quiet_op); (first | go_big_quiet_on | (refine ⟨_, fun _ => rfl, ?_⟩; go_big_quiet_on)))))
        | ((with_reducible ((show wpOne _ _ _ _ 0 1 _ _ _))); (first | (refine wpOne_skip rfl rfl ?_; (try go_simp)) | (refine wpOne_1 rfl rfl ?_; intro K hK; go_simp; refine hK _ _ ?_ ?_; (focus (exact stw HS)); clear hK K)))
        | ((with_reducible ((show wpOne _ _ _ _ 2 1 _ _ _))); (first | (refine wpOne_skip rfl rfl ?_; (try go_simp)) | (refine wpOne_1 rfl rfl ?_; intro K hK; (first | (refine wp_store_st  _ _ _ rfl rfl (v := .agg (List.toArray _)) rfl HS tk sz_impl_Completion vcs rfx rfx (by simp) ?_ rfl; clear HS; intro w5_2 hz5_2 HS; simp only [nicL, Value.cells, List.append_nil] at HS) | (refine wp_store_st  _ _ _ rfl rfl (v := .agg _) rfl HS tk sz_impl_Completion vcs rfx rfx (by simp) ?_ rfl; clear HS; intro w5_2 hz5_2 HS; simp only [nicL, Value.cells, List.append_nil] at HS)); (try go_simp); refine hK _ _ ?_ ?_; (focus (exact stw HS)); clear hK K)))
        | ((with_reducible ((show wpOne _ _ _ _ 3 2 _ _ _))); (first | (refine wpOne_skip rfl rfl ?_; (try go_simp)) | (refine wpOne_2 rfl rfl ?_; intro K hK; (first | (refine wp_store_st  _ _ _ rfl rfl (v := .agg (List.toArray _)) rfl HS tk sz_impl_CompletionQueue vcs rfx rfx (by simp) ?_ rfl; clear HS; intro w5_3 hz5_3 HS; simp only [nicL, Value.cells, List.append_nil] at HS) | (refine wp_store_st  _ _ _ rfl rfl (v := .agg _) rfl HS tk sz_impl_CompletionQueue vcs rfx rfx (by simp) ?_ rfl; clear HS; intro w5_3 hz5_3 HS; simp only [nicL, Value.cells, List.append_nil] at HS)); (try go_simp); refine hK _ _ ?_; clear hK K)))
        | ((with_reducible ((show wpOne _ _ _ _ 4 2 _ _ _))); (first | (refine wpOne_skip rfl rfl ?_; (try go_simp)) | (refine wpOne_2 rfl rfl ?_; intro K hK; go_simp; refine hK _ _ ?_; clear hK K)))
        | (with_reducible refine wpPlan_done ?_))
      go_wp2
      refine bodyPost_rets rfx (RVs.cell rfx HS tk ag_impl_Completion rfx (RVs.cell rfx HS tk ag_impl_CompletionQueue rfx (RVs.tmp rfx RVs.nil))) (by simp) rfx ?_
      exact ⟨rfl, HS.ex⟩
  case true =>
    dsimp only at hr
    have h16 := dmaRF_size hD
    have hts : Hid (t.size ≤ 9223372036854775807) := hid (by omega)
    have ht1 : Hid (((t.size : Int) == 16) = true) := hid (by simp; omega)
    have ht2 : Hid (((t.size : Int) != 16) = false) := hid (by simp; omega)
    clear hD h16
    by_cases h1 : 1 < get32 t 12
    case pos =>
      rw [if_neg (by omega)] at hr
      simp only [Prod.mk.injEq] at hr
      obtain ⟨⟨e1, e2, e3, e4, e5⟩, e6, rfl⟩ := hr
      subst e1
      subst e2
      subst e3
      subst e4
      subst e5
      replace e6 := e6.symm
      subst e6
      have h3 := hid h1
      clear h1
      have HS := St.start w
      go_enter Try.func14, Try.ntmps14
      go_wp2_with (first
            | (go_at_call 15; (with_reducible refine (queueOk_any b s c _).mono ?_); rintro e w' ⟨rfl, hx⟩; rw [HQ.out]; replace HS := HS.grow hx; clear hx)
            | ((with_reducible (show wpList _ _ _ (Oper.mk (some 5) (Op.box _ _) _ _ _ _ :: _) _ _)); refine wpList_box_st (o := ⟨some 5, .box _ _, _, _, _, _⟩) rfl _ _ rfl (v := .agg (List.toArray _)) rfl HS ?_; clear HS; intro w5 b5 hb5 HS; simp only [Value.cells] at HS)
            | ((with_reducible (show wpList _ _ _ (Oper.mk (some 7) (Op.box _ _) _ _ _ _ :: _) _ _)); refine wpList_box_st (o := ⟨some 7, .box _ _, _, _, _, _⟩) rfl _ _ rfl (v := .agg (List.toArray _)) rfl HS ?_; clear HS; intro w7 b7 hb7 HS; simp only [Value.cells] at HS)
            | ((with_reducible (show wpList _ _ _ (Oper.mk (some 8) (Op.alloc _) _ _ _ _ :: _) _ _)); refine wpList_alloc_st (o := ⟨some 8, .alloc _, _, _, _, _⟩) rfl _ rfl zc_impl_Completion HS ?_; clear HS; intro w8 b8 hb8 HS)
            | ((with_reducible (show wpList _ _ _ (Oper.mk (some 9) (Op.alloc _) _ _ _ _ :: _) _ _)); refine wpList_alloc_st (o := ⟨some 9, .alloc _, _, _, _, _⟩) rfl _ rfl zc_impl_CompletionQueue HS ?_; clear HS; intro w9 b9 hb9 HS)
            | ((with_reducible (show wpList _ _ _ (Oper.mk (some 15) (Op.load _ _) _ _ _ _ :: _) _ _)); refine wpList_loadA_st (o := ⟨some 15, .load _ _, _, _, _, _⟩) rfl _ _ rfl rfl HS tk ag_impl_CompletionQueue lit rfl ?_))
      refine wp_region_plan_st HS (.early 0 (.early 1 (.early 2 (.forced 3 1 (.forced 4 1 (.forced 5 2 (.forced 6 2 (.pure 7 (.pure 8 (.forced 9 2 (.forced 10 2 .done))))))))))) (by kernel_rfl) (by as_aux_lemma => kernel_rfl) ?_
      intro hne
      replace HS := HS.drew
      try go_simp
      repeat' (first
        | (with_reducible refine wpPlan_forced ?_)
        | ((with_reducible (first | (show wpPlan _ _ _ _ (.early 0 _) _ _) | (show wpPlan _ _ _ _ (.early 2 _) _ _))); (first | (refine wpPlan_skipE rfl rfl ?_; (try go_simp)) | (refine wpPlan_early rfl rfl ?_; intro K hK; (first | go_big_quiet_op); (first | go_big_quiet_on | (refine ⟨_, fun _ => rfl, ?_⟩; go_big_quiet_on)))))
        | ((with_reducible ((show wpPlan _ _ _ _ (.early 1 _) _ _))); (first | (refine wpPlan_skipE rfl rfl ?_; (try go_simp)) | (refine wpPlan_early rfl rfl ?_; intro K hK; (first | ((refine quiet_loadA_st  _ _ rfl rfl tk ag_impl_Memory lit rfl ?_); (try go_simp)) | go_big_quiet_op); (first | go_big_quiet_on | (refine ⟨_, fun _ => rfl, ?_⟩; go_big_quiet_on)))))
        | ((with_reducible ((show wpOne _ _ _ _ 3 1 _ _ _))); (first | (refine wpOne_skip rfl rfl ?_; (try go_simp)) | (refine wpOne_1 rfl rfl ?_; intro K hK; (first | (refine wp_loadA_st  _ _ rfl rfl HS tk ag_impl_CompletionQueue lit rfl ?_)); (try go_simp); refine hK _ _ ?_ ?_; (focus (exact stw HS)); clear hK K)))
        | ((with_reducible ((show wpOne _ _ _ _ 4 1 _ _ _))); (first | (refine wpOne_skip rfl rfl ?_; (try go_simp)) | (refine wpOne_1 rfl rfl ?_; intro K hK; go_simp; (first | (go_at_call 57; (with_reducible refine (slotOfCount_any b s c _ HQ.out).mono ?_); rintro e w' ⟨rfl, hx⟩; replace HS := HS.grow hx; clear hx)); (try go_simp); refine hK _ _ ?_ ?_; (focus (exact stw HS)); clear hK K)))
        | ((with_reducible ((show wpOne _ _ _ _ 5 2 _ _ _))); (first | (refine wpOne_skip rfl rfl ?_; (try go_simp)) | (refine wpOne_2 rfl rfl ?_; intro K hK; go_simp; (first | (go_at_call 60; (with_reducible refine (dmaRead_any _ _ l ps d (slotC b s c) 16 _ (k1.ex HS.ex) (k2.ex HS.ex) hd.out HSI.out (by unfold i64ok; omega) HD.out).mono ?_); rintro e w' ⟨rfl, hx⟩; replace HS := HS.grow hx; clear hx)); (try go_simp); refine hK _ _ ?_; clear hK K)))
        | ((with_reducible (first | (show wpOne _ _ _ _ 6 2 _ _ _) | (show wpOne _ _ _ _ 9 2 _ _ _) | (show wpOne _ _ _ _ 10 2 _ _ _))); (first | (refine wpOne_skip rfl rfl ?_; (try go_simp)) | (refine wpOne_2 rfl rfl ?_; intro K hK; go_simp; refine hK _ _ ?_; clear hK K)))
        | ((with_reducible ((show wpPlan _ _ _ _ (.pure _ _) _ _))); (first | (refine wpPlan_skipP rfl rfl ?_; (try go_simp)) | (refine wpPlan_pure rfl rfl ?_; intro K hK; go_big_quiet_op; (first | go_big_quiet_on | (refine ⟨_, fun _ => rfl, ?_⟩; go_big_quiet_on)))))
        | (with_reducible refine wpPlan_done ?_))
      all_goals
        go_wp2_with (first
              | (go_at_call 61; (with_reducible refine (decode_f t hts.out ht1.out ht2.out h3.out _).mono ?_); rintro e w' ⟨rfl, hx⟩; replace HS := HS.grow hx; clear hx)
              | ((with_reducible (show wpList _ _ _ (Oper.mk (some 13) (Op.alloc _) _ _ _ _ :: _) _ _)); refine wpList_alloc_st (o := ⟨some 13, .alloc _, _, _, _, _⟩) rfl _ rfl zc_impl_Completion HS ?_; clear HS; intro w13 b13 hb13 HS)
              | ((with_reducible (show wpList _ _ _ (Oper.mk none (Op.store _ (.tmp 13) _) _ _ _ _ :: _) _ _)); refine wpList_store_st (o := ⟨none, .store _ (.tmp 13) _, _, _, _, _⟩) rfl _ _ _ rfl rfl (v := .agg (List.toArray _)) rfl HS tk sz_impl_Completion vcs rfx rfx (by simp) ?_ rfl; clear HS; intro w6_7 hz6_7 HS; simp only [nicL, Value.cells, List.append_nil] at HS))
        refine wp_region_plan_st (HS.arr (show Arr _ [rowA b7 _ _] from ary)) (.early 1 (.forced 0 1 (.forced 2 1 (.forced 3 2 (.forced 4 2 .done))))) (by kernel_rfl) (by as_aux_lemma => kernel_rfl) ?_
        intro hne
        replace HS := HS.drew
        try go_simp
        repeat' (first
          | (with_reducible refine wpPlan_forced ?_)
          | ((with_reducible ((show wpPlan _ _ _ _ (.early 1 _) _ _))); (first | (refine wpPlan_skipE rfl rfl ?_; (try go_simp)) | (refine wpPlan_early rfl rfl ?_; intro K hK; (first | ((refine quiet_loadA_st  _ _ rfl rfl tk ag_impl_CompletionQueue lit rfl ?_); (try go_simp)) | go_big_quiet_op); (first | go_big_quiet_on | (refine ⟨_, fun _ => rfl, ?_⟩; go_big_quiet_on)))))
          | ((with_reducible ((show wpOne _ _ _ _ 0 1 _ _ _))); (first | (refine wpOne_skip rfl rfl ?_; (try go_simp)) | (refine wpOne_1 rfl rfl ?_; intro K hK; go_simp; refine hK _ _ ?_ ?_; (focus (exact stw HS)); clear hK K)))
          | ((with_reducible ((show wpOne _ _ _ _ 2 1 _ _ _))); (first | (refine wpOne_skip rfl rfl ?_; (try go_simp)) | (refine wpOne_1 rfl rfl ?_; intro K hK; (first | (refine wp_store_st  _ _ _ rfl rfl (v := .agg (List.toArray _)) rfl HS tk sz_impl_Completion vcs rfx rfx (by simp) ?_ rfl; clear HS; intro w8_2 hz8_2 HS; simp only [nicL, Value.cells, List.append_nil] at HS) | (refine wp_store_st  _ _ _ rfl rfl (v := .agg _) rfl HS tk sz_impl_Completion vcs rfx rfx (by simp) ?_ rfl; clear HS; intro w8_2 hz8_2 HS; simp only [nicL, Value.cells, List.append_nil] at HS)); (try go_simp); refine hK _ _ ?_ ?_; (focus (exact stw HS)); clear hK K)))
          | ((with_reducible ((show wpOne _ _ _ _ 3 2 _ _ _))); (first | (refine wpOne_skip rfl rfl ?_; (try go_simp)) | (refine wpOne_2 rfl rfl ?_; intro K hK; (first | (refine wp_store_st  _ _ _ rfl rfl (v := .agg (List.toArray _)) rfl HS tk sz_impl_CompletionQueue vcs rfx rfx (by simp) ?_ rfl; clear HS; intro w8_3 hz8_3 HS; simp only [nicL, Value.cells, List.append_nil] at HS) | (refine wp_store_st  _ _ _ rfl rfl (v := .agg _) rfl HS tk sz_impl_CompletionQueue vcs rfx rfx (by simp) ?_ rfl; clear HS; intro w8_3 hz8_3 HS; simp only [nicL, Value.cells, List.append_nil] at HS)); (try go_simp); refine hK _ _ ?_; clear hK K)))
          | ((with_reducible ((show wpOne _ _ _ _ 4 2 _ _ _))); (first | (refine wpOne_skip rfl rfl ?_; (try go_simp)) | (refine wpOne_2 rfl rfl ?_; intro K hK; go_simp; refine hK _ _ ?_; clear hK K)))
          | (with_reducible refine wpPlan_done ?_))
        go_wp2
        refine bodyPost_rets rfx (RVs.cell rfx HS tk ag_impl_Completion rfx (RVs.cell rfx HS tk ag_impl_CompletionQueue rfx (RVs.tmp rfx RVs.nil))) (by simp) rfx ?_
        exact ⟨rfl, HS.ex⟩
    case neg =>
      have h3 : Hid (get32 t 12 ≤ 1) := hid (by omega)
      by_cases h2 : get32 t 12 = ph
      case neg =>
        rw [if_neg h2] at hr
        simp only [Prod.mk.injEq] at hr
        obtain ⟨⟨e1, e2, e3, e4, e5⟩, e6, rfl⟩ := hr
        subst e1
        subst e2
        subst e3
        subst e4
        subst e5
        replace e6 := e6.symm
        subst e6
        have h4 : (get32 t 12 != ph) = true := by simp [h2]
        clear h1 h2
        have HS := St.start w
        go_enter Try.func14, Try.ntmps14
        go_wp2_with (first
              | (go_at_call 15; (with_reducible refine (queueOk_any b s c _).mono ?_); rintro e w' ⟨rfl, hx⟩; rw [HQ.out]; replace HS := HS.grow hx; clear hx)
              | ((with_reducible (show wpList _ _ _ (Oper.mk (some 5) (Op.box _ _) _ _ _ _ :: _) _ _)); refine wpList_box_st (o := ⟨some 5, .box _ _, _, _, _, _⟩) rfl _ _ rfl (v := .agg (List.toArray _)) rfl HS ?_; clear HS; intro w5 b5 hb5 HS; simp only [Value.cells] at HS)
              | ((with_reducible (show wpList _ _ _ (Oper.mk (some 7) (Op.box _ _) _ _ _ _ :: _) _ _)); refine wpList_box_st (o := ⟨some 7, .box _ _, _, _, _, _⟩) rfl _ _ rfl (v := .agg (List.toArray _)) rfl HS ?_; clear HS; intro w7 b7 hb7 HS; simp only [Value.cells] at HS)
              | ((with_reducible (show wpList _ _ _ (Oper.mk (some 8) (Op.alloc _) _ _ _ _ :: _) _ _)); refine wpList_alloc_st (o := ⟨some 8, .alloc _, _, _, _, _⟩) rfl _ rfl zc_impl_Completion HS ?_; clear HS; intro w8 b8 hb8 HS)
              | ((with_reducible (show wpList _ _ _ (Oper.mk (some 9) (Op.alloc _) _ _ _ _ :: _) _ _)); refine wpList_alloc_st (o := ⟨some 9, .alloc _, _, _, _, _⟩) rfl _ rfl zc_impl_CompletionQueue HS ?_; clear HS; intro w9 b9 hb9 HS)
              | ((with_reducible (show wpList _ _ _ (Oper.mk (some 15) (Op.load _ _) _ _ _ _ :: _) _ _)); refine wpList_loadA_st (o := ⟨some 15, .load _ _, _, _, _, _⟩) rfl _ _ rfl rfl HS tk ag_impl_CompletionQueue lit rfl ?_))
        refine wp_region_plan_st HS (.early 0 (.early 1 (.early 2 (.forced 3 1 (.forced 4 1 (.forced 5 2 (.forced 6 2 (.pure 7 (.pure 8 (.forced 9 2 (.forced 10 2 .done))))))))))) (by kernel_rfl) (by as_aux_lemma => kernel_rfl) ?_
        intro hne
        replace HS := HS.drew
        try go_simp
        repeat' (first
          | (with_reducible refine wpPlan_forced ?_)
          | ((with_reducible (first | (show wpPlan _ _ _ _ (.early 0 _) _ _) | (show wpPlan _ _ _ _ (.early 2 _) _ _))); (first | (refine wpPlan_skipE rfl rfl ?_; (try go_simp)) | (refine wpPlan_early rfl rfl ?_; intro K hK; (first | go_big_quiet_op); (first | go_big_quiet_on | (refine ⟨_, fun _ => rfl, ?_⟩; go_big_quiet_on)))))
          | ((with_reducible ((show wpPlan _ _ _ _ (.early 1 _) _ _))); (first | (refine wpPlan_skipE rfl rfl ?_; (try go_simp)) | (refine wpPlan_early rfl rfl ?_; intro K hK; (first | ((refine quiet_loadA_st  _ _ rfl rfl tk ag_impl_Memory lit rfl ?_); (try go_simp)) | go_big_quiet_op); (first | go_big_quiet_on | (refine ⟨_, fun _ => rfl, ?_⟩; go_big_quiet_on)))))
          | ((with_reducible ((show wpOne _ _ _ _ 3 1 _ _ _))); (first | (refine wpOne_skip rfl rfl ?_; (try go_simp)) | (refine wpOne_1 rfl rfl ?_; intro K hK; (first | (refine wp_loadA_st  _ _ rfl rfl HS tk ag_impl_CompletionQueue lit rfl ?_)); (try go_simp); refine hK _ _ ?_ ?_; (focus (exact stw HS)); clear hK K)))
          | ((with_reducible ((show wpOne _ _ _ _ 4 1 _ _ _))); (first | (refine wpOne_skip rfl rfl ?_; (try go_simp)) | (refine wpOne_1 rfl rfl ?_; intro K hK; go_simp; (first | (go_at_call 57; (with_reducible refine (slotOfCount_any b s c _ HQ.out).mono ?_); rintro e w' ⟨rfl, hx⟩; replace HS := HS.grow hx; clear hx)); (try go_simp); refine hK _ _ ?_ ?_; (focus (exact stw HS)); clear hK K)))
          | ((with_reducible ((show wpOne _ _ _ _ 5 2 _ _ _))); (first | (refine wpOne_skip rfl rfl ?_; (try go_simp)) | (refine wpOne_2 rfl rfl ?_; intro K hK; go_simp; (first | (go_at_call 60; (with_reducible refine (dmaRead_any _ _ l ps d (slotC b s c) 16 _ (k1.ex HS.ex) (k2.ex HS.ex) hd.out HSI.out (by unfold i64ok; omega) HD.out).mono ?_); rintro e w' ⟨rfl, hx⟩; replace HS := HS.grow hx; clear hx)); (try go_simp); refine hK _ _ ?_; clear hK K)))
          | ((with_reducible (first | (show wpOne _ _ _ _ 6 2 _ _ _) | (show wpOne _ _ _ _ 9 2 _ _ _) | (show wpOne _ _ _ _ 10 2 _ _ _))); (first | (refine wpOne_skip rfl rfl ?_; (try go_simp)) | (refine wpOne_2 rfl rfl ?_; intro K hK; go_simp; refine hK _ _ ?_; clear hK K)))
          | ((with_reducible ((show wpPlan _ _ _ _ (.pure _ _) _ _))); (first | (refine wpPlan_skipP rfl rfl ?_; (try go_simp)) | (refine wpPlan_pure rfl rfl ?_; intro K hK; go_big_quiet_op; (first | go_big_quiet_on | (refine ⟨_, fun _ => rfl, ?_⟩; go_big_quiet_on)))))
          | (with_reducible refine wpPlan_done ?_))
        all_goals
          go_wp2_with (first
                | (go_at_call 59; (with_reducible refine (phaseOf_any b s c _).mono ?_); rintro e w' ⟨rfl, hx⟩; rw [HPH.out]; replace HS := HS.grow hx; clear hx)
                | (go_at_call 61; (with_reducible refine (decode_t t hts.out ht1.out ht2.out h3.out _).mono ?_); rintro e w' ⟨rfl, hx⟩; replace HS := HS.grow hx; clear hx)
                | ((with_reducible (show wpList _ _ _ (Oper.mk (some 13) (Op.alloc _) _ _ _ _ :: _) _ _)); refine wpList_alloc_st (o := ⟨some 13, .alloc _, _, _, _, _⟩) rfl _ rfl zc_impl_Completion HS ?_; clear HS; intro w13 b13 hb13 HS)
                | ((with_reducible (show wpList _ _ _ (Oper.mk none (Op.store _ (.tmp 13) _) _ _ _ _ :: _) _ _)); refine wpList_store_st (o := ⟨none, .store _ (.tmp 13) _, _, _, _, _⟩) rfl _ _ _ rfl rfl (v := .agg (List.toArray _)) rfl HS tk sz_impl_Completion vcs rfx rfx (by simp) ?_ rfl; clear HS; intro w6_7 hz6_7 HS; simp only [nicL, Value.cells, List.append_nil] at HS)
                | ((with_reducible (show wpList _ _ _ (Oper.mk (some 43) (Op.load _ _) _ _ _ _ :: _) _ _)); refine wpList_loadA_st (o := ⟨some 43, .load _ _, _, _, _, _⟩) rfl _ _ rfl rfl HS tk ag_impl_CompletionQueue lit rfl ?_))
          refine wp_region_plan_st (HS.arr (show Arr _ [rowA b7 _ _] from ary)) (.early 1 (.forced 0 1 (.forced 2 1 (.forced 3 2 (.forced 4 2 .done))))) (by kernel_rfl) (by as_aux_lemma => kernel_rfl) ?_
          intro hne
          replace HS := HS.drew
          try go_simp
          repeat' (first
            | (with_reducible refine wpPlan_forced ?_)
            | ((with_reducible ((show wpPlan _ _ _ _ (.early 1 _) _ _))); (first | (refine wpPlan_skipE rfl rfl ?_; (try go_simp)) | (refine wpPlan_early rfl rfl ?_; intro K hK; (first | ((refine quiet_loadA_st  _ _ rfl rfl tk ag_impl_CompletionQueue lit rfl ?_); (try go_simp)) | go_big_quiet_op); (first | go_big_quiet_on | (refine ⟨_, fun _ => rfl, ?_⟩; go_big_quiet_on)))))
            | ((with_reducible ((show wpOne _ _ _ _ 0 1 _ _ _))); (first | (refine wpOne_skip rfl rfl ?_; (try go_simp)) | (refine wpOne_1 rfl rfl ?_; intro K hK; go_simp; refine hK _ _ ?_ ?_; (focus (exact stw HS)); clear hK K)))
            | ((with_reducible ((show wpOne _ _ _ _ 2 1 _ _ _))); (first | (refine wpOne_skip rfl rfl ?_; (try go_simp)) | (refine wpOne_1 rfl rfl ?_; intro K hK; (first | (refine wp_store_st  _ _ _ rfl rfl (v := .agg (List.toArray _)) rfl HS tk sz_impl_Completion vcs rfx rfx (by simp) ?_ rfl; clear HS; intro w8_2 hz8_2 HS; simp only [nicL, Value.cells, List.append_nil] at HS) | (refine wp_store_st  _ _ _ rfl rfl (v := .agg _) rfl HS tk sz_impl_Completion vcs rfx rfx (by simp) ?_ rfl; clear HS; intro w8_2 hz8_2 HS; simp only [nicL, Value.cells, List.append_nil] at HS)); (try go_simp); refine hK _ _ ?_ ?_; (focus (exact stw HS)); clear hK K)))
            | ((with_reducible ((show wpOne _ _ _ _ 3 2 _ _ _))); (first | (refine wpOne_skip rfl rfl ?_; (try go_simp)) | (refine wpOne_2 rfl rfl ?_; intro K hK; (first | (refine wp_store_st  _ _ _ rfl rfl (v := .agg (List.toArray _)) rfl HS tk sz_impl_CompletionQueue vcs rfx rfx (by simp) ?_ rfl; clear HS; intro w8_3 hz8_3 HS; simp only [nicL, Value.cells, List.append_nil] at HS) | (refine wp_store_st  _ _ _ rfl rfl (v := .agg _) rfl HS tk sz_impl_CompletionQueue vcs rfx rfx (by simp) ?_ rfl; clear HS; intro w8_3 hz8_3 HS; simp only [nicL, Value.cells, List.append_nil] at HS)); (try go_simp); refine hK _ _ ?_; clear hK K)))
            | ((with_reducible ((show wpOne _ _ _ _ 4 2 _ _ _))); (first | (refine wpOne_skip rfl rfl ?_; (try go_simp)) | (refine wpOne_2 rfl rfl ?_; intro K hK; go_simp; refine hK _ _ ?_; clear hK K)))
            | (with_reducible refine wpPlan_done ?_))
          go_wp2
          refine bodyPost_rets rfx (RVs.cell rfx HS tk ag_impl_Completion rfx (RVs.cell rfx HS tk ag_impl_CompletionQueue rfx (RVs.tmp rfx RVs.nil))) (by simp) rfx ?_
          exact ⟨rfl, HS.ex⟩
      case pos =>
        rw [if_pos h2] at hr
        simp only [Prod.mk.injEq] at hr
        obtain ⟨⟨rfl, rfl, rfl, rfl, rfl⟩, rfl, rfl⟩ := hr
        have h4 : (get32 t 12 != ph) = false := by simp [h2]
        have HM : Hid (nextC s c = (c + 1) % (2 * s)) := hid rfl
        have q3 : (c + 1).tmod (2 * s) = (c + 1) % (2 * s) := Int.tmod_eq_emod_of_nonneg (by omega)
        have q4 : 2 * s ≠ 0 := by omega
        have q5 : (2 * s == 0) = false := by simp [q4]
        have q6 : c ≤ 31 := by omega
        clear h1 h2
        have HS := St.start w
        go_enter Try.func14, Try.ntmps14
        go_wp2_with (first
              | (go_at_call 15; (with_reducible refine (queueOk_any b s c _).mono ?_); rintro e w' ⟨rfl, hx⟩; rw [HQ.out]; replace HS := HS.grow hx; clear hx)
              | ((with_reducible (show wpList _ _ _ (Oper.mk (some 5) (Op.box _ _) _ _ _ _ :: _) _ _)); refine wpList_box_st (o := ⟨some 5, .box _ _, _, _, _, _⟩) rfl _ _ rfl (v := .agg (List.toArray _)) rfl HS ?_; clear HS; intro w5 b5 hb5 HS; simp only [Value.cells] at HS)
              | ((with_reducible (show wpList _ _ _ (Oper.mk (some 7) (Op.box _ _) _ _ _ _ :: _) _ _)); refine wpList_box_st (o := ⟨some 7, .box _ _, _, _, _, _⟩) rfl _ _ rfl (v := .agg (List.toArray _)) rfl HS ?_; clear HS; intro w7 b7 hb7 HS; simp only [Value.cells] at HS)
              | ((with_reducible (show wpList _ _ _ (Oper.mk (some 8) (Op.alloc _) _ _ _ _ :: _) _ _)); refine wpList_alloc_st (o := ⟨some 8, .alloc _, _, _, _, _⟩) rfl _ rfl zc_impl_Completion HS ?_; clear HS; intro w8 b8 hb8 HS)
              | ((with_reducible (show wpList _ _ _ (Oper.mk (some 9) (Op.alloc _) _ _ _ _ :: _) _ _)); refine wpList_alloc_st (o := ⟨some 9, .alloc _, _, _, _, _⟩) rfl _ rfl zc_impl_CompletionQueue HS ?_; clear HS; intro w9 b9 hb9 HS)
              | ((with_reducible (show wpList _ _ _ (Oper.mk (some 15) (Op.load _ _) _ _ _ _ :: _) _ _)); refine wpList_loadA_st (o := ⟨some 15, .load _ _, _, _, _, _⟩) rfl _ _ rfl rfl HS tk ag_impl_CompletionQueue lit rfl ?_))
        refine wp_region_plan_st HS (.early 0 (.early 1 (.early 2 (.forced 3 1 (.forced 4 1 (.forced 5 2 (.forced 6 2 (.pure 7 (.pure 8 (.forced 9 2 (.forced 10 2 .done))))))))))) (by kernel_rfl) (by as_aux_lemma => kernel_rfl) ?_
        intro hne
        replace HS := HS.drew
        try go_simp
        repeat' (first
          | (with_reducible refine wpPlan_forced ?_)
          | ((with_reducible (first | (show wpPlan _ _ _ _ (.early 0 _) _ _) | (show wpPlan _ _ _ _ (.early 2 _) _ _))); (first | (refine wpPlan_skipE rfl rfl ?_; (try go_simp)) | (refine wpPlan_early rfl rfl ?_; intro K hK; (first | go_big_quiet_op); (first | go_big_quiet_on | (refine ⟨_, fun _ => rfl, ?_⟩; go_big_quiet_on)))))
          | ((with_reducible ((show wpPlan _ _ _ _ (.early 1 _) _ _))); (first | (refine wpPlan_skipE rfl rfl ?_; (try go_simp)) | (refine wpPlan_early rfl rfl ?_; intro K hK; (first | ((refine quiet_loadA_st  _ _ rfl rfl tk ag_impl_Memory lit rfl ?_); (try go_simp)) | go_big_quiet_op); (first | go_big_quiet_on | (refine ⟨_, fun _ => rfl, ?_⟩; go_big_quiet_on)))))
          | ((with_reducible ((show wpOne _ _ _ _ 3 1 _ _ _))); (first | (refine wpOne_skip rfl rfl ?_; (try go_simp)) | (refine wpOne_1 rfl rfl ?_; intro K hK; (first | (refine wp_loadA_st  _ _ rfl rfl HS tk ag_impl_CompletionQueue lit rfl ?_)); (try go_simp); refine hK _ _ ?_ ?_; (focus (exact stw HS)); clear hK K)))
          | ((with_reducible ((show wpOne _ _ _ _ 4 1 _ _ _))); (first | (refine wpOne_skip rfl rfl ?_; (try go_simp)) | (refine wpOne_1 rfl rfl ?_; intro K hK; go_simp; (first | (go_at_call 57; (with_reducible refine (slotOfCount_any b s c _ HQ.out).mono ?_); rintro e w' ⟨rfl, hx⟩; replace HS := HS.grow hx; clear hx)); (try go_simp); refine hK _ _ ?_ ?_; (focus (exact stw HS)); clear hK K)))
          | ((with_reducible ((show wpOne _ _ _ _ 5 2 _ _ _))); (first | (refine wpOne_skip rfl rfl ?_; (try go_simp)) | (refine wpOne_2 rfl rfl ?_; intro K hK; go_simp; (first | (go_at_call 60; (with_reducible refine (dmaRead_any _ _ l ps d (slotC b s c) 16 _ (k1.ex HS.ex) (k2.ex HS.ex) hd.out HSI.out (by unfold i64ok; omega) HD.out).mono ?_); rintro e w' ⟨rfl, hx⟩; replace HS := HS.grow hx; clear hx)); (try go_simp); refine hK _ _ ?_; clear hK K)))
          | ((with_reducible (first | (show wpOne _ _ _ _ 6 2 _ _ _) | (show wpOne _ _ _ _ 9 2 _ _ _) | (show wpOne _ _ _ _ 10 2 _ _ _))); (first | (refine wpOne_skip rfl rfl ?_; (try go_simp)) | (refine wpOne_2 rfl rfl ?_; intro K hK; go_simp; refine hK _ _ ?_; clear hK K)))
          | ((with_reducible ((show wpPlan _ _ _ _ (.pure _ _) _ _))); (first | (refine wpPlan_skipP rfl rfl ?_; (try go_simp)) | (refine wpPlan_pure rfl rfl ?_; intro K hK; go_big_quiet_op; (first | go_big_quiet_on | (refine ⟨_, fun _ => rfl, ?_⟩; go_big_quiet_on)))))
          | (with_reducible refine wpPlan_done ?_))
        all_goals
          go_wp2_with (first
                | (go_at_call 59; (with_reducible refine (phaseOf_any b s c _).mono ?_); rintro e w' ⟨rfl, hx⟩; rw [HPH.out]; replace HS := HS.grow hx; clear hx)
                | (go_at_call 61; (with_reducible refine (decode_t t hts.out ht1.out ht2.out h3.out _).mono ?_); rintro e w' ⟨rfl, hx⟩; replace HS := HS.grow hx; clear hx)
                | ((with_reducible (show wpList _ _ _ (Oper.mk (some 13) (Op.alloc _) _ _ _ _ :: _) _ _)); refine wpList_alloc_st (o := ⟨some 13, .alloc _, _, _, _, _⟩) rfl _ rfl zc_impl_Completion HS ?_; clear HS; intro w13 b13 hb13 HS)
                | ((with_reducible (show wpList _ _ _ (Oper.mk none (Op.store _ (.tmp 13) _) _ _ _ _ :: _) _ _)); refine wpList_store_st (o := ⟨none, .store _ (.tmp 13) _, _, _, _, _⟩) rfl _ _ _ rfl rfl (v := .agg (List.toArray _)) rfl HS tk sz_impl_Completion vcs rfx rfx (by simp) ?_ rfl; clear HS; intro w6_7 hz6_7 HS; simp only [nicL, Value.cells, List.append_nil] at HS)
                | ((with_reducible (show wpList _ _ _ (Oper.mk (some 43) (Op.load _ _) _ _ _ _ :: _) _ _)); refine wpList_loadA_st (o := ⟨some 43, .load _ _, _, _, _, _⟩) rfl _ _ rfl rfl HS tk ag_impl_CompletionQueue lit rfl ?_)
                | ((with_reducible (show wpList _ _ _ (Oper.mk (some 50) (Op.load _ _) _ _ _ _ :: _) _ _)); refine wpList_loadS_st (o := ⟨some 50, .load _ _, _, _, _, _⟩) rfl _ _ rfl rfl HS tk sc_int rfx ?_)
                | ((with_reducible (show wpList _ _ _ (Oper.mk (some 53) (Op.load _ _) _ _ _ _ :: _) _ _)); refine wpList_loadS_st (o := ⟨some 53, .load _ _, _, _, _, _⟩) rfl _ _ rfl rfl HS tk sc_int rfx ?_)
                | ((with_reducible (show wpList _ _ _ (Oper.mk none (Op.store _ (.tmp 56) _) _ _ _ _ :: _) _ _)); refine wpList_store_st (o := ⟨none, .store _ (.tmp 56) _, _, _, _, _⟩) rfl _ _ _ rfl rfl (v := .int .i64 _) rfl HS tk sz_int vcs rfx rfx (by simp) ?_ rfl; clear HS; intro w9_8 hz9_8 HS; simp only [nicL, Value.cells, List.append_nil] at HS))
          refine wp_region_plan_st (HS.arr (show Arr _ [rowA b13 _ _, rowA b7 _ _] from ary)) (.early 0 (.early 1 (.forced 2 1 (.forced 3 2 (.forced 4 2 .done))))) (by kernel_rfl) (by as_aux_lemma => kernel_rfl) ?_
          intro hne
          replace HS := HS.drew
          try go_simp
          repeat' (first
            | (with_reducible refine wpPlan_forced ?_)
            | ((with_reducible ((show wpPlan _ _ _ _ (.early 0 _) _ _))); (first | (refine wpPlan_skipE rfl rfl ?_; (try go_simp)) | (refine wpPlan_early rfl rfl ?_; intro K hK; (first | ((refine quiet_loadA_st  _ _ rfl rfl tk ag_impl_Completion lit rfl ?_); (try go_simp)) | go_big_quiet_op); (first | go_big_quiet_on | (refine ⟨_, fun _ => rfl, ?_⟩; go_big_quiet_on)))))
            | ((with_reducible ((show wpPlan _ _ _ _ (.early 1 _) _ _))); (first | (refine wpPlan_skipE rfl rfl ?_; (try go_simp)) | (refine wpPlan_early rfl rfl ?_; intro K hK; (first | ((refine quiet_loadA_st  _ _ rfl rfl tk ag_impl_CompletionQueue lit rfl ?_); (try go_simp)) | go_big_quiet_op); (first | go_big_quiet_on | (refine ⟨_, fun _ => rfl, ?_⟩; go_big_quiet_on)))))
            | ((with_reducible ((show wpOne _ _ _ _ 2 1 _ _ _))); (first | (refine wpOne_skip rfl rfl ?_; (try go_simp)) | (refine wpOne_1 rfl rfl ?_; intro K hK; (first | (refine wp_store_st  _ _ _ rfl rfl (v := .agg (List.toArray _)) rfl HS tk sz_impl_Completion vcs rfx rfx (by simp) ?_ rfl; clear HS; intro w10_2 hz10_2 HS; simp only [nicL, Value.cells, List.append_nil] at HS) | (refine wp_store_st  _ _ _ rfl rfl (v := .agg _) rfl HS tk sz_impl_Completion vcs rfx rfx (by simp) ?_ rfl; clear HS; intro w10_2 hz10_2 HS; simp only [nicL, Value.cells, List.append_nil] at HS)); (try go_simp); refine hK _ _ ?_ ?_; (focus (exact stw HS)); clear hK K)))
            | ((with_reducible ((show wpOne _ _ _ _ 3 2 _ _ _))); (first | (refine wpOne_skip rfl rfl ?_; (try go_simp)) | (refine wpOne_2 rfl rfl ?_; intro K hK; (first | (refine wp_store_st  _ _ _ rfl rfl (v := .agg (List.toArray _)) rfl HS tk sz_impl_CompletionQueue vcs rfx rfx (by simp) ?_ rfl; clear HS; intro w10_3 hz10_3 HS; simp only [nicL, Value.cells, List.append_nil] at HS) | (refine wp_store_st  _ _ _ rfl rfl (v := .agg _) rfl HS tk sz_impl_CompletionQueue vcs rfx rfx (by simp) ?_ rfl; clear HS; intro w10_3 hz10_3 HS; simp only [nicL, Value.cells, List.append_nil] at HS)); (try go_simp); refine hK _ _ ?_; clear hK K)))
            | ((with_reducible ((show wpOne _ _ _ _ 4 2 _ _ _))); (first | (refine wpOne_skip rfl rfl ?_; (try go_simp)) | (refine wpOne_2 rfl rfl ?_; intro K hK; go_simp; refine hK _ _ ?_; clear hK K)))
            | (with_reducible refine wpPlan_done ?_))
          go_wp2
          rw [HM.out]
          refine bodyPost_rets rfx (RVs.cell rfx HS tk ag_impl_Completion rfx (RVs.cell rfx HS tk ag_impl_CompletionQueue rfx (RVs.tmp rfx RVs.nil))) (by simp) rfx ?_
          exact ⟨rfl, HS.ex⟩

set_option maxRecDepth 100000 in
set_option maxHeartbeats 4000000 in
theorem nextCompletionS_any (v1 v2 : Value) (l : List Mp) (ps : Pg) (d b s c : Int) (w : World) (k1 : Holds w l [v1]) (k2 : Holds w ps [v2]) (hd : i64ok d) {x1 x2 x3 x4 x5 c2 : Int} {ok : Bool} (hr : ((x1, x2, x3, x4, x5), c2, ok) = nextF l ps d b s c) :
    Calls Try.prog 18 #[v1, .agg #[v2], .int .i64 d, .agg #[.int .i64 b, .int .i64 s, .int .i64 c]] w fun e w' => e = .returned (.tuple #[.agg #[.int .i64 x1, .int .i64 x2, .int .i64 x3, .int .i64 x4, .int .i64 x5], .agg #[.int .i64 b, .int .i64 s, .int .i64 c2], .bool ok]) ∧ Ex w w' := by
  obtain ⟨AA, cap, rfl, z1, z2⟩ := k1.fl
  unfold maxLen at z2
  obtain ⟨BB, cap2, rfl, y1, y2⟩ := k2.fl
  unfold maxLen at y2
  replace hd := hid hd
  cases hq : queueOkB b s c
  case false =>
    have HQ := hid hq
    unfold nextF at hr
    rw [hq, if_neg (by decide)] at hr
    simp only [Prod.mk.injEq] at hr
    obtain ⟨⟨e1, e2, e3, e4, e5⟩, e6, rfl⟩ := hr
    subst e1
    subst e2
    subst e3
    subst e4
    subst e5
    replace e6 := e6.symm
    subst e6
    clear hq
    have HS := St.start w
    go_enter Try.func18, Try.ntmps18
    go_wp2_with (first
          | (go_at_call 65; (with_reducible refine (queueOkS_any b s c _).mono ?_); rintro e w' ⟨rfl, hx⟩; rw [HQ.out]; replace HS := HS.grow hx; clear hx)
          | ((with_reducible (show wpList _ _ _ (Oper.mk (some 5) (Op.box _ _) _ _ _ _ :: _) _ _)); refine wpList_box_st (o := ⟨some 5, .box _ _, _, _, _, _⟩) rfl _ _ rfl (v := .agg (List.toArray _)) rfl HS ?_; clear HS; intro w5 b5 hb5 HS; simp only [Value.cells] at HS)
          | ((with_reducible (show wpList _ _ _ (Oper.mk (some 7) (Op.box _ _) _ _ _ _ :: _) _ _)); refine wpList_box_st (o := ⟨some 7, .box _ _, _, _, _, _⟩) rfl _ _ rfl (v := .agg (List.toArray _)) rfl HS ?_; clear HS; intro w7 b7 hb7 HS; simp only [Value.cells] at HS)
          | ((with_reducible (show wpList _ _ _ (Oper.mk (some 8) (Op.alloc _) _ _ _ _ :: _) _ _)); refine wpList_alloc_st (o := ⟨some 8, .alloc _, _, _, _, _⟩) rfl _ rfl zc_impl_Completion HS ?_; clear HS; intro w8 b8 hb8 HS)
          | ((with_reducible (show wpList _ _ _ (Oper.mk (some 9) (Op.alloc _) _ _ _ _ :: _) _ _)); refine wpList_alloc_st (o := ⟨some 9, .alloc _, _, _, _, _⟩) rfl _ rfl zc_impl_CompletionQueue HS ?_; clear HS; intro w9 b9 hb9 HS)
          | ((with_reducible (show wpList _ _ _ (Oper.mk (some 16) (Op.load _ _) _ _ _ _ :: _) _ _)); refine wpList_loadA_st (o := ⟨some 16, .load _ _, _, _, _, _⟩) rfl _ _ rfl rfl HS tk ag_impl_CompletionQueue lit rfl ?_))
    refine wp_region_plan_st (HS.arr (show Arr _ [rowA b7 _ _] from ary)) (.early 1 (.forced 0 1 (.forced 2 1 (.forced 3 2 (.forced 4 2 .done))))) (by kernel_rfl) (by as_aux_lemma => kernel_rfl) ?_
    intro hne
    replace HS := HS.drew
    try go_simp
    repeat' (first
      | (with_reducible refine wpPlan_forced ?_)
      | ((with_reducible ((show wpPlan _ _ _ _ (.early 1 _) _ _))); (first | (refine wpPlan_skipE rfl rfl ?_; (try go_simp)) | (refine wpPlan_early rfl rfl ?_; intro K hK; (first | ((refine quiet_loadA_st  _ _ rfl rfl tk ag_impl_CompletionQueue lit rfl ?_); (try go_simp)) | go_big_quiet_op); (first | go_big_quiet_on | (refine ⟨_, fun _ => rfl, ?_⟩; go_big_quiet_on)))))
      | ((with_reducible ((show wpOne _ _ _ _ 0 1 _ _ _))); (first | (refine wpOne_skip rfl rfl ?_; (try go_simp)) | (refine wpOne_1 rfl rfl ?_; intro K hK; go_simp; refine hK _ _ ?_ ?_; (focus (exact stw HS)); clear hK K)))
      | ((with_reducible ((show wpOne _ _ _ _ 2 1 _ _ _))); (first | (refine wpOne_skip rfl rfl ?_; (try go_simp)) | (refine wpOne_1 rfl rfl ?_; intro K hK; (first | (refine wp_store_st  _ _ _ rfl rfl (v := .agg (List.toArray _)) rfl HS tk sz_impl_Completion vcs rfx rfx (by simp) ?_ rfl; clear HS; intro w2_2 hz2_2 HS; simp only [nicL, Value.cells, List.append_nil] at HS) | (refine wp_store_st  _ _ _ rfl rfl (v := .agg _) rfl HS tk sz_impl_Completion vcs rfx rfx (by simp) ?_ rfl; clear HS; intro w2_2 hz2_2 HS; simp only [nicL, Value.cells, List.append_nil] at HS)); (try go_simp); refine hK _ _ ?_ ?_; (focus (exact stw HS)); clear hK K)))
      | ((with_reducible ((show wpOne _ _ _ _ 3 2 _ _ _))); (first | (refine wpOne_skip rfl rfl ?_; (try go_simp)) | (refine wpOne_2 rfl rfl ?_; intro K hK; (first | (refine wp_store_st  _ _ _ rfl rfl (v := .agg (List.toArray _)) rfl HS tk sz_impl_CompletionQueue vcs rfx rfx (by simp) ?_ rfl; clear HS; intro w2_3 hz2_3 HS; simp only [nicL, Value.cells, List.append_nil] at HS) | (refine wp_store_st  _ _ _ rfl rfl (v := .agg _) rfl HS tk sz_impl_CompletionQueue vcs rfx rfx (by simp) ?_ rfl; clear HS; intro w2_3 hz2_3 HS; simp only [nicL, Value.cells, List.append_nil] at HS)); (try go_simp); refine hK _ _ ?_; clear hK K)))
      | ((with_reducible ((show wpOne _ _ _ _ 4 2 _ _ _))); (first | (refine wpOne_skip rfl rfl ?_; (try go_simp)) | (refine wpOne_2 rfl rfl ?_; intro K hK; go_simp; refine hK _ _ ?_; clear hK K)))
      | (with_reducible refine wpPlan_done ?_))
    go_wp2
    refine bodyPost_rets rfx (RVs.cell rfx HS tk ag_impl_Completion rfx (RVs.cell rfx HS tk ag_impl_CompletionQueue rfx (RVs.tmp rfx RVs.nil))) (by simp) rfx ?_
    exact ⟨rfl, HS.ex⟩
  case true =>
  have HQ := hid hq
  obtain ⟨sb0, sb1⟩ := slotC_bd hq
  obtain ⟨ph0, ph1⟩ := phaseC_bd s c
  have HSI : Hid (i64ok (b + 16 * (c % s))) := hid (by first | (unfold i64ok; omega) | (unfold slotC at sb0 sb1; unfold i64ok; omega))
  unfold nextF at hr
  rw [hq, if_pos rfl] at hr
  obtain ⟨b0, b1, hs, c0, c1⟩ := queueOk_facts hq
  have q1 : c.tmod s = c % s := Int.tmod_eq_emod_of_nonneg c0
  have m0 := Int.emod_nonneg c (show s ≠ 0 by omega)
  have m1 := Int.emod_lt_of_pos c (show 0 < s by omega)
  have sz : s ≠ 0 := by omega
  have s2 : s ≤ 16 := by omega
  have w3 : IntKind.i64.wrap (16 * (c % s)) = 16 * (c % s) := IntWalk.i64_in _ (by omega)
  have w4 : IntKind.i64.wrap (b + 16 * (c % s)) = b + 16 * (c % s) := IntWalk.i64_in _ (by omega)
  have sz2 : (s == 0) = false := by simp [sz]
  obtain ⟨⟨t, k⟩, hD⟩ : ∃ r, r = dmaRF l ps d (slotC b s c) 16 := ⟨_, rfl⟩
  rw [← hD] at hr
  have HD : Hid ((t, k) = dmaRF l ps d (b + 16 * (c % s)) 16) := hid (by first | exact hD | (rw [show b + 16 * (c % s) = slotC b s c from by unfold slotC; omega]; exact hD))
  obtain ⟨ph, hph⟩ : ∃ p, phaseC s c = p := ⟨_, rfl⟩
  rw [hph] at ph0 ph1 hr
  have HPH := hid hph
  clear hq sb0 sb1 hs hph
  cases k
  case false =>
    simp only [Prod.mk.injEq] at hr
    obtain ⟨⟨e1, e2, e3, e4, e5⟩, e6, rfl⟩ := hr
    subst e1
    subst e2
    subst e3
    subst e4
    subst e5
    replace e6 := e6.symm
    subst e6
    obtain rfl := dmaRF_none hD
    clear hD
    have HS := St.start w
    go_enter Try.func18, Try.ntmps18
    go_wp2_with (first
          | (go_at_call 65; (with_reducible refine (queueOkS_any b s c _).mono ?_); rintro e w' ⟨rfl, hx⟩; rw [HQ.out]; replace HS := HS.grow hx; clear hx)
          | ((with_reducible (show wpList _ _ _ (Oper.mk (some 5) (Op.box _ _) _ _ _ _ :: _) _ _)); refine wpList_box_st (o := ⟨some 5, .box _ _, _, _, _, _⟩) rfl _ _ rfl (v := .agg (List.toArray _)) rfl HS ?_; clear HS; intro w5 b5 hb5 HS; simp only [Value.cells] at HS)
          | ((with_reducible (show wpList _ _ _ (Oper.mk (some 7) (Op.box _ _) _ _ _ _ :: _) _ _)); refine wpList_box_st (o := ⟨some 7, .box _ _, _, _, _, _⟩) rfl _ _ rfl (v := .agg (List.toArray _)) rfl HS ?_; clear HS; intro w7 b7 hb7 HS; simp only [Value.cells] at HS)
          | ((with_reducible (show wpList _ _ _ (Oper.mk (some 8) (Op.alloc _) _ _ _ _ :: _) _ _)); refine wpList_alloc_st (o := ⟨some 8, .alloc _, _, _, _, _⟩) rfl _ rfl zc_impl_Completion HS ?_; clear HS; intro w8 b8 hb8 HS)
          | ((with_reducible (show wpList _ _ _ (Oper.mk (some 9) (Op.alloc _) _ _ _ _ :: _) _ _)); refine wpList_alloc_st (o := ⟨some 9, .alloc _, _, _, _, _⟩) rfl _ rfl zc_impl_CompletionQueue HS ?_; clear HS; intro w9 b9 hb9 HS)
          | ((with_reducible (show wpList _ _ _ (Oper.mk (some 16) (Op.load _ _) _ _ _ _ :: _) _ _)); refine wpList_loadA_st (o := ⟨some 16, .load _ _, _, _, _, _⟩) rfl _ _ rfl rfl HS tk ag_impl_CompletionQueue lit rfl ?_))
    refine wp_region_plan_st HS (.early 0 (.early 1 (.early 2 (.early 3 (.early 4 (.early 5 (.early 6 (.forced 7 1 (.forced 8 1 (.forced 9 1 (.forced 10 1 (.forced 11 1 (.forced 12 2 (.forced 13 2 (.pure 14 (.pure 15 (.forced 16 2 (.forced 17 2 .done)))))))))))))))))) (by kernel_rfl) (by as_aux_lemma => kernel_rfl) ?_
    intro hne
    replace HS := HS.drew
    try go_simp
    repeat' (first
      | (with_reducible refine wpPlan_forced ?_)
      | ((with_reducible (first | (show wpPlan _ _ _ _ (.early 0 _) _ _) | (show wpPlan _ _ _ _ (.early 2 _) _ _) | (show wpPlan _ _ _ _ (.early 3 _) _ _) | (show wpPlan _ _ _ _ (.early 5 _) _ _))); (first | (refine wpPlan_skipE rfl rfl ?_; (try go_simp)) | (refine wpPlan_early rfl rfl ?_; intro K hK; (first | go_big_quiet_op); (first | go_big_quiet_on | (refine ⟨_, fun _ => rfl, ?_⟩; go_big_quiet_on)))))
      | ((with_reducible ((show wpPlan _ _ _ _ (.early 1 _) _ _))); (first | (refine wpPlan_skipE rfl rfl ?_; (try go_simp)) | (refine wpPlan_early rfl rfl ?_; intro K hK; (first | ((refine quiet_loadA_st  _ _ rfl rfl tk ag_impl_Memory lit rfl ?_); (try go_simp)) | go_big_quiet_op); (first | go_big_quiet_on | (refine ⟨_, fun _ => rfl, ?_⟩; go_big_quiet_on)))))
      | ((with_reducible (first | (show wpPlan _ _ _ _ (.early 4 _) _ _) | (show wpPlan _ _ _ _ (.early 6 _) _ _))); (first | (refine wpPlan_skipE rfl rfl ?_; (try go_simp)) | (refine wpPlan_early rfl rfl ?_; intro K hK; (first | ((refine quiet_loadS_st  _ _ rfl rfl tk sc_int rfx ?_); (try go_simp)) | go_big_quiet_op); (first | go_big_quiet_on | (refine ⟨_, fun _ => rfl, ?_⟩; go_big_quiet_on)))))
      | ((with_reducible (first | (show wpOne _ _ _ _ 7 1 _ _ _) | (show wpOne _ _ _ _ 9 1 _ _ _) | (show wpOne _ _ _ _ 10 1 _ _ _) | (show wpOne _ _ _ _ 11 1 _ _ _))); (first | (refine wpOne_skip rfl rfl ?_; (try go_simp)) | (refine wpOne_1 rfl rfl ?_; intro K hK; go_simp; refine hK _ _ ?_ ?_; (focus (exact stw HS)); clear hK K)))
      | ((with_reducible ((show wpOne _ _ _ _ 8 1 _ _ _))); (first | (refine wpOne_skip rfl rfl ?_; (try go_simp)) | (refine wpOne_1 rfl rfl ?_; intro K hK; (first | (refine wp_loadS_st  _ _ rfl rfl HS tk sc_int rfx ?_)); (try go_simp); refine hK _ _ ?_ ?_; (focus (exact stw HS)); clear hK K)))
      | ((with_reducible ((show wpOne _ _ _ _ 12 2 _ _ _))); (first | (refine wpOne_skip rfl rfl ?_; (try go_simp)) | (refine wpOne_2 rfl rfl ?_; intro K hK; go_simp; (first | (go_at_call 66; (with_reducible refine (dmaReadS_any _ _ l ps d (b + 16 * (c % s)) 16 _ (k1.ex HS.ex) (k2.ex HS.ex) hd.out HSI.out (by unfold i64ok; omega) HD.out).mono ?_); rintro e w' ⟨rfl, hx⟩; replace HS := HS.grow hx; clear hx)); (try go_simp); refine hK _ _ ?_; clear hK K)))
      | ((with_reducible (first | (show wpOne _ _ _ _ 13 2 _ _ _) | (show wpOne _ _ _ _ 16 2 _ _ _) | (show wpOne _ _ _ _ 17 2 _ _ _))); (first | (refine wpOne_skip rfl rfl ?_; (try go_simp)) | (refine wpOne_2 rfl rfl ?_; intro K hK; go_simp; refine hK _ _ ?_; clear hK K)))
      | ((with_reducible ((show wpPlan _ _ _ _ (.pure _ _) _ _))); (first | (refine wpPlan_skipP rfl rfl ?_; (try go_simp)) | (refine wpPlan_pure rfl rfl ?_; intro K hK; go_big_quiet_op; (first | go_big_quiet_on | (refine ⟨_, fun _ => rfl, ?_⟩; go_big_quiet_on)))))
      | (with_reducible refine wpPlan_done ?_))
    all_goals
      go_wp2_with (first
            | (go_at_call 67; (with_reducible refine (decodeS_l ⟨#[]⟩ (by decide) (by decide) (by decide) _).mono ?_); rintro e w' ⟨rfl, hx⟩; replace HS := HS.grow hx; clear hx)
            | ((with_reducible (show wpList _ _ _ (Oper.mk (some 13) (Op.alloc _) _ _ _ _ :: _) _ _)); refine wpList_alloc_st (o := ⟨some 13, .alloc _, _, _, _, _⟩) rfl _ rfl zc_impl_Completion HS ?_; clear HS; intro w13 b13 hb13 HS)
            | ((with_reducible (show wpList _ _ _ (Oper.mk none (Op.store _ (.tmp 13) _) _ _ _ _ :: _) _ _)); refine wpList_store_st (o := ⟨none, .store _ (.tmp 13) _, _, _, _, _⟩) rfl _ _ _ rfl rfl (v := .agg (List.toArray _)) rfl HS tk sz_impl_Completion vcs rfx rfx (by simp) ?_ rfl; clear HS; intro w4_7 hz4_7 HS; simp only [nicL, Value.cells, List.append_nil] at HS))
      refine wp_region_plan_st (HS.arr (show Arr _ [rowA b7 _ _] from ary)) (.early 1 (.forced 0 1 (.forced 2 1 (.forced 3 2 (.forced 4 2 .done))))) (by kernel_rfl) (by as_aux_lemma => kernel_rfl) ?_
      intro hne
      replace HS := HS.drew
      try go_simp
      repeat' (first
        | (with_reducible refine wpPlan_forced ?_)
        | ((with_reducible ((show wpPlan _ _ _ _ (.early 1 _) _ _))); (first | (refine wpPlan_skipE rfl rfl ?_; (try go_simp)) | (refine wpPlan_early rfl rfl ?_; intro K hK; (first | ((refine quiet_loadA_st  _ _ rfl rfl tk ag_impl_CompletionQueue lit rfl ?_); (try go_simp)) | go_big_quiet_op); (first | go_big_quiet_on | (refine ⟨_, fun _ => rfl, ?_⟩; go_big_quiet_on)))))
        | ((with_reducible ((show wpOne _ _ _ _ 0 1 _ _ _))); (first | (refine wpOne_skip rfl rfl ?_; (try go_simp)) | (refine wpOne_1 rfl rfl ?_; intro K hK; go_simp; refine hK _ _ ?_ ?_; (focus (exact stw HS)); clear hK K)))
        | ((with_reducible ((show wpOne _ _ _ _ 2 1 _ _ _))); (first | (refine wpOne_skip rfl rfl ?_; (try go_simp)) | (refine wpOne_1 rfl rfl ?_; intro K hK; (first | (refine wp_store_st  _ _ _ rfl rfl (v := .agg (List.toArray _)) rfl HS tk sz_impl_Completion vcs rfx rfx (by simp) ?_ rfl; clear HS; intro w6_2 hz6_2 HS; simp only [nicL, Value.cells, List.append_nil] at HS) | (refine wp_store_st  _ _ _ rfl rfl (v := .agg _) rfl HS tk sz_impl_Completion vcs rfx rfx (by simp) ?_ rfl; clear HS; intro w6_2 hz6_2 HS; simp only [nicL, Value.cells, List.append_nil] at HS)); (try go_simp); refine hK _ _ ?_ ?_; (focus (exact stw HS)); clear hK K)))
        | ((with_reducible ((show wpOne _ _ _ _ 3 2 _ _ _))); (first | (refine wpOne_skip rfl rfl ?_; (try go_simp)) | (refine wpOne_2 rfl rfl ?_; intro K hK; (first | (refine wp_store_st  _ _ _ rfl rfl (v := .agg (List.toArray _)) rfl HS tk sz_impl_CompletionQueue vcs rfx rfx (by simp) ?_ rfl; clear HS; intro w6_3 hz6_3 HS; simp only [nicL, Value.cells, List.append_nil] at HS) | (refine wp_store_st  _ _ _ rfl rfl (v := .agg _) rfl HS tk sz_impl_CompletionQueue vcs rfx rfx (by simp) ?_ rfl; clear HS; intro w6_3 hz6_3 HS; simp only [nicL, Value.cells, List.append_nil] at HS)); (try go_simp); refine hK _ _ ?_; clear hK K)))
        | ((with_reducible ((show wpOne _ _ _ _ 4 2 _ _ _))); (first | (refine wpOne_skip rfl rfl ?_; (try go_simp)) | (refine wpOne_2 rfl rfl ?_; intro K hK; go_simp; refine hK _ _ ?_; clear hK K)))
        | (with_reducible refine wpPlan_done ?_))
      go_wp2
      refine bodyPost_rets rfx (RVs.cell rfx HS tk ag_impl_Completion rfx (RVs.cell rfx HS tk ag_impl_CompletionQueue rfx (RVs.tmp rfx RVs.nil))) (by simp) rfx ?_
      exact ⟨rfl, HS.ex⟩
  case true =>
    dsimp only at hr
    have h16 := dmaRF_size hD
    have hts : Hid (t.size ≤ 9223372036854775807) := hid (by omega)
    have ht1 : Hid (((t.size : Int) == 16) = true) := hid (by simp; omega)
    have ht2 : Hid (((t.size : Int) != 16) = false) := hid (by simp; omega)
    clear hD h16
    by_cases h1 : 1 < get32 t 12
    case pos =>
      rw [if_neg (by omega)] at hr
      simp only [Prod.mk.injEq] at hr
      obtain ⟨⟨e1, e2, e3, e4, e5⟩, e6, rfl⟩ := hr
      subst e1
      subst e2
      subst e3
      subst e4
      subst e5
      replace e6 := e6.symm
      subst e6
      have h3 := hid h1
      clear h1
      have HS := St.start w
      go_enter Try.func18, Try.ntmps18
      go_wp2_with (first
            | (go_at_call 65; (with_reducible refine (queueOkS_any b s c _).mono ?_); rintro e w' ⟨rfl, hx⟩; rw [HQ.out]; replace HS := HS.grow hx; clear hx)
            | ((with_reducible (show wpList _ _ _ (Oper.mk (some 5) (Op.box _ _) _ _ _ _ :: _) _ _)); refine wpList_box_st (o := ⟨some 5, .box _ _, _, _, _, _⟩) rfl _ _ rfl (v := .agg (List.toArray _)) rfl HS ?_; clear HS; intro w5 b5 hb5 HS; simp only [Value.cells] at HS)
            | ((with_reducible (show wpList _ _ _ (Oper.mk (some 7) (Op.box _ _) _ _ _ _ :: _) _ _)); refine wpList_box_st (o := ⟨some 7, .box _ _, _, _, _, _⟩) rfl _ _ rfl (v := .agg (List.toArray _)) rfl HS ?_; clear HS; intro w7 b7 hb7 HS; simp only [Value.cells] at HS)
            | ((with_reducible (show wpList _ _ _ (Oper.mk (some 8) (Op.alloc _) _ _ _ _ :: _) _ _)); refine wpList_alloc_st (o := ⟨some 8, .alloc _, _, _, _, _⟩) rfl _ rfl zc_impl_Completion HS ?_; clear HS; intro w8 b8 hb8 HS)
            | ((with_reducible (show wpList _ _ _ (Oper.mk (some 9) (Op.alloc _) _ _ _ _ :: _) _ _)); refine wpList_alloc_st (o := ⟨some 9, .alloc _, _, _, _, _⟩) rfl _ rfl zc_impl_CompletionQueue HS ?_; clear HS; intro w9 b9 hb9 HS)
            | ((with_reducible (show wpList _ _ _ (Oper.mk (some 16) (Op.load _ _) _ _ _ _ :: _) _ _)); refine wpList_loadA_st (o := ⟨some 16, .load _ _, _, _, _, _⟩) rfl _ _ rfl rfl HS tk ag_impl_CompletionQueue lit rfl ?_))
      refine wp_region_plan_st HS (.early 0 (.early 1 (.early 2 (.early 3 (.early 4 (.early 5 (.early 6 (.forced 7 1 (.forced 8 1 (.forced 9 1 (.forced 10 1 (.forced 11 1 (.forced 12 2 (.forced 13 2 (.pure 14 (.pure 15 (.forced 16 2 (.forced 17 2 .done)))))))))))))))))) (by kernel_rfl) (by as_aux_lemma => kernel_rfl) ?_
      intro hne
      replace HS := HS.drew
      try go_simp
      repeat' (first
        | (with_reducible refine wpPlan_forced ?_)
        | ((with_reducible (first | (show wpPlan _ _ _ _ (.early 0 _) _ _) | (show wpPlan _ _ _ _ (.early 2 _) _ _) | (show wpPlan _ _ _ _ (.early 3 _) _ _) | (show wpPlan _ _ _ _ (.early 5 _) _ _))); (first | (refine wpPlan_skipE rfl rfl ?_; (try go_simp)) | (refine wpPlan_early rfl rfl ?_; intro K hK; (first | go_big_quiet_op); (first | go_big_quiet_on | (refine ⟨_, fun _ => rfl, ?_⟩; go_big_quiet_on)))))
        | ((with_reducible ((show wpPlan _ _ _ _ (.early 1 _) _ _))); (first | (refine wpPlan_skipE rfl rfl ?_; (try go_simp)) | (refine wpPlan_early rfl rfl ?_; intro K hK; (first | ((refine quiet_loadA_st  _ _ rfl rfl tk ag_impl_Memory lit rfl ?_); (try go_simp)) | go_big_quiet_op); (first | go_big_quiet_on | (refine ⟨_, fun _ => rfl, ?_⟩; go_big_quiet_on)))))
        | ((with_reducible (first | (show wpPlan _ _ _ _ (.early 4 _) _ _) | (show wpPlan _ _ _ _ (.early 6 _) _ _))); (first | (refine wpPlan_skipE rfl rfl ?_; (try go_simp)) | (refine wpPlan_early rfl rfl ?_; intro K hK; (first | ((refine quiet_loadS_st  _ _ rfl rfl tk sc_int rfx ?_); (try go_simp)) | go_big_quiet_op); (first | go_big_quiet_on | (refine ⟨_, fun _ => rfl, ?_⟩; go_big_quiet_on)))))
        | ((with_reducible (first | (show wpOne _ _ _ _ 7 1 _ _ _) | (show wpOne _ _ _ _ 9 1 _ _ _) | (show wpOne _ _ _ _ 10 1 _ _ _) | (show wpOne _ _ _ _ 11 1 _ _ _))); (first | (refine wpOne_skip rfl rfl ?_; (try go_simp)) | (refine wpOne_1 rfl rfl ?_; intro K hK; go_simp; refine hK _ _ ?_ ?_; (focus (exact stw HS)); clear hK K)))
        | ((with_reducible ((show wpOne _ _ _ _ 8 1 _ _ _))); (first | (refine wpOne_skip rfl rfl ?_; (try go_simp)) | (refine wpOne_1 rfl rfl ?_; intro K hK; (first | (refine wp_loadS_st  _ _ rfl rfl HS tk sc_int rfx ?_)); (try go_simp); refine hK _ _ ?_ ?_; (focus (exact stw HS)); clear hK K)))
        | ((with_reducible ((show wpOne _ _ _ _ 12 2 _ _ _))); (first | (refine wpOne_skip rfl rfl ?_; (try go_simp)) | (refine wpOne_2 rfl rfl ?_; intro K hK; go_simp; (first | (go_at_call 66; (with_reducible refine (dmaReadS_any _ _ l ps d (b + 16 * (c % s)) 16 _ (k1.ex HS.ex) (k2.ex HS.ex) hd.out HSI.out (by unfold i64ok; omega) HD.out).mono ?_); rintro e w' ⟨rfl, hx⟩; replace HS := HS.grow hx; clear hx)); (try go_simp); refine hK _ _ ?_; clear hK K)))
        | ((with_reducible (first | (show wpOne _ _ _ _ 13 2 _ _ _) | (show wpOne _ _ _ _ 16 2 _ _ _) | (show wpOne _ _ _ _ 17 2 _ _ _))); (first | (refine wpOne_skip rfl rfl ?_; (try go_simp)) | (refine wpOne_2 rfl rfl ?_; intro K hK; go_simp; refine hK _ _ ?_; clear hK K)))
        | ((with_reducible ((show wpPlan _ _ _ _ (.pure _ _) _ _))); (first | (refine wpPlan_skipP rfl rfl ?_; (try go_simp)) | (refine wpPlan_pure rfl rfl ?_; intro K hK; go_big_quiet_op; (first | go_big_quiet_on | (refine ⟨_, fun _ => rfl, ?_⟩; go_big_quiet_on)))))
        | (with_reducible refine wpPlan_done ?_))
      all_goals
        go_wp2_with (first
              | (go_at_call 67; (with_reducible refine (decodeS_f t hts.out ht1.out ht2.out h3.out _).mono ?_); rintro e w' ⟨rfl, hx⟩; replace HS := HS.grow hx; clear hx)
              | ((with_reducible (show wpList _ _ _ (Oper.mk (some 13) (Op.alloc _) _ _ _ _ :: _) _ _)); refine wpList_alloc_st (o := ⟨some 13, .alloc _, _, _, _, _⟩) rfl _ rfl zc_impl_Completion HS ?_; clear HS; intro w13 b13 hb13 HS)
              | ((with_reducible (show wpList _ _ _ (Oper.mk none (Op.store _ (.tmp 13) _) _ _ _ _ :: _) _ _)); refine wpList_store_st (o := ⟨none, .store _ (.tmp 13) _, _, _, _, _⟩) rfl _ _ _ rfl rfl (v := .agg (List.toArray _)) rfl HS tk sz_impl_Completion vcs rfx rfx (by simp) ?_ rfl; clear HS; intro w4_7 hz4_7 HS; simp only [nicL, Value.cells, List.append_nil] at HS))
        refine wp_region_plan_st (HS.arr (show Arr _ [rowA b7 _ _] from ary)) (.early 1 (.forced 0 1 (.forced 2 1 (.forced 3 2 (.forced 4 2 .done))))) (by kernel_rfl) (by as_aux_lemma => kernel_rfl) ?_
        intro hne
        replace HS := HS.drew
        try go_simp
        repeat' (first
          | (with_reducible refine wpPlan_forced ?_)
          | ((with_reducible ((show wpPlan _ _ _ _ (.early 1 _) _ _))); (first | (refine wpPlan_skipE rfl rfl ?_; (try go_simp)) | (refine wpPlan_early rfl rfl ?_; intro K hK; (first | ((refine quiet_loadA_st  _ _ rfl rfl tk ag_impl_CompletionQueue lit rfl ?_); (try go_simp)) | go_big_quiet_op); (first | go_big_quiet_on | (refine ⟨_, fun _ => rfl, ?_⟩; go_big_quiet_on)))))
          | ((with_reducible ((show wpOne _ _ _ _ 0 1 _ _ _))); (first | (refine wpOne_skip rfl rfl ?_; (try go_simp)) | (refine wpOne_1 rfl rfl ?_; intro K hK; go_simp; refine hK _ _ ?_ ?_; (focus (exact stw HS)); clear hK K)))
          | ((with_reducible ((show wpOne _ _ _ _ 2 1 _ _ _))); (first | (refine wpOne_skip rfl rfl ?_; (try go_simp)) | (refine wpOne_1 rfl rfl ?_; intro K hK; (first | (refine wp_store_st  _ _ _ rfl rfl (v := .agg (List.toArray _)) rfl HS tk sz_impl_Completion vcs rfx rfx (by simp) ?_ rfl; clear HS; intro w6_2 hz6_2 HS; simp only [nicL, Value.cells, List.append_nil] at HS) | (refine wp_store_st  _ _ _ rfl rfl (v := .agg _) rfl HS tk sz_impl_Completion vcs rfx rfx (by simp) ?_ rfl; clear HS; intro w6_2 hz6_2 HS; simp only [nicL, Value.cells, List.append_nil] at HS)); (try go_simp); refine hK _ _ ?_ ?_; (focus (exact stw HS)); clear hK K)))
          | ((with_reducible ((show wpOne _ _ _ _ 3 2 _ _ _))); (first | (refine wpOne_skip rfl rfl ?_; (try go_simp)) | (refine wpOne_2 rfl rfl ?_; intro K hK; (first | (refine wp_store_st  _ _ _ rfl rfl (v := .agg (List.toArray _)) rfl HS tk sz_impl_CompletionQueue vcs rfx rfx (by simp) ?_ rfl; clear HS; intro w6_3 hz6_3 HS; simp only [nicL, Value.cells, List.append_nil] at HS) | (refine wp_store_st  _ _ _ rfl rfl (v := .agg _) rfl HS tk sz_impl_CompletionQueue vcs rfx rfx (by simp) ?_ rfl; clear HS; intro w6_3 hz6_3 HS; simp only [nicL, Value.cells, List.append_nil] at HS)); (try go_simp); refine hK _ _ ?_; clear hK K)))
          | ((with_reducible ((show wpOne _ _ _ _ 4 2 _ _ _))); (first | (refine wpOne_skip rfl rfl ?_; (try go_simp)) | (refine wpOne_2 rfl rfl ?_; intro K hK; go_simp; refine hK _ _ ?_; clear hK K)))
          | (with_reducible refine wpPlan_done ?_))
        go_wp2
        refine bodyPost_rets rfx (RVs.cell rfx HS tk ag_impl_Completion rfx (RVs.cell rfx HS tk ag_impl_CompletionQueue rfx (RVs.tmp rfx RVs.nil))) (by simp) rfx ?_
        exact ⟨rfl, HS.ex⟩
    case neg =>
      have h3 : Hid (get32 t 12 ≤ 1) := hid (by omega)
      by_cases h2 : get32 t 12 = ph
      case neg =>
        rw [if_neg h2] at hr
        simp only [Prod.mk.injEq] at hr
        obtain ⟨⟨e1, e2, e3, e4, e5⟩, e6, rfl⟩ := hr
        subst e1
        subst e2
        subst e3
        subst e4
        subst e5
        replace e6 := e6.symm
        subst e6
        have h4 : (get32 t 12 != ph) = true := by simp [h2]
        clear h1 h2
        have HS := St.start w
        go_enter Try.func18, Try.ntmps18
        go_wp2_with (first
              | (go_at_call 65; (with_reducible refine (queueOkS_any b s c _).mono ?_); rintro e w' ⟨rfl, hx⟩; rw [HQ.out]; replace HS := HS.grow hx; clear hx)
              | ((with_reducible (show wpList _ _ _ (Oper.mk (some 5) (Op.box _ _) _ _ _ _ :: _) _ _)); refine wpList_box_st (o := ⟨some 5, .box _ _, _, _, _, _⟩) rfl _ _ rfl (v := .agg (List.toArray _)) rfl HS ?_; clear HS; intro w5 b5 hb5 HS; simp only [Value.cells] at HS)
              | ((with_reducible (show wpList _ _ _ (Oper.mk (some 7) (Op.box _ _) _ _ _ _ :: _) _ _)); refine wpList_box_st (o := ⟨some 7, .box _ _, _, _, _, _⟩) rfl _ _ rfl (v := .agg (List.toArray _)) rfl HS ?_; clear HS; intro w7 b7 hb7 HS; simp only [Value.cells] at HS)
              | ((with_reducible (show wpList _ _ _ (Oper.mk (some 8) (Op.alloc _) _ _ _ _ :: _) _ _)); refine wpList_alloc_st (o := ⟨some 8, .alloc _, _, _, _, _⟩) rfl _ rfl zc_impl_Completion HS ?_; clear HS; intro w8 b8 hb8 HS)
              | ((with_reducible (show wpList _ _ _ (Oper.mk (some 9) (Op.alloc _) _ _ _ _ :: _) _ _)); refine wpList_alloc_st (o := ⟨some 9, .alloc _, _, _, _, _⟩) rfl _ rfl zc_impl_CompletionQueue HS ?_; clear HS; intro w9 b9 hb9 HS)
              | ((with_reducible (show wpList _ _ _ (Oper.mk (some 16) (Op.load _ _) _ _ _ _ :: _) _ _)); refine wpList_loadA_st (o := ⟨some 16, .load _ _, _, _, _, _⟩) rfl _ _ rfl rfl HS tk ag_impl_CompletionQueue lit rfl ?_))
        refine wp_region_plan_st HS (.early 0 (.early 1 (.early 2 (.early 3 (.early 4 (.early 5 (.early 6 (.forced 7 1 (.forced 8 1 (.forced 9 1 (.forced 10 1 (.forced 11 1 (.forced 12 2 (.forced 13 2 (.pure 14 (.pure 15 (.forced 16 2 (.forced 17 2 .done)))))))))))))))))) (by kernel_rfl) (by as_aux_lemma => kernel_rfl) ?_
        intro hne
        replace HS := HS.drew
        try go_simp
        repeat' (first
          | (with_reducible refine wpPlan_forced ?_)
          | ((with_reducible (first | (show wpPlan _ _ _ _ (.early 0 _) _ _) | (show wpPlan _ _ _ _ (.early 2 _) _ _) | (show wpPlan _ _ _ _ (.early 3 _) _ _) | (show wpPlan _ _ _ _ (.early 5 _) _ _))); (first | (refine wpPlan_skipE rfl rfl ?_; (try go_simp)) | (refine wpPlan_early rfl rfl ?_; intro K hK; (first | go_big_quiet_op); (first | go_big_quiet_on | (refine ⟨_, fun _ => rfl, ?_⟩; go_big_quiet_on)))))
          | ((with_reducible ((show wpPlan _ _ _ _ (.early 1 _) _ _))); (first | (refine wpPlan_skipE rfl rfl ?_; (try go_simp)) | (refine wpPlan_early rfl rfl ?_; intro K hK; (first | ((refine quiet_loadA_st  _ _ rfl rfl tk ag_impl_Memory lit rfl ?_); (try go_simp)) | go_big_quiet_op); (first | go_big_quiet_on | (refine ⟨_, fun _ => rfl, ?_⟩; go_big_quiet_on)))))
          | ((with_reducible (first | (show wpPlan _ _ _ _ (.early 4 _) _ _) | (show wpPlan _ _ _ _ (.early 6 _) _ _))); (first | (refine wpPlan_skipE rfl rfl ?_; (try go_simp)) | (refine wpPlan_early rfl rfl ?_; intro K hK; (first | ((refine quiet_loadS_st  _ _ rfl rfl tk sc_int rfx ?_); (try go_simp)) | go_big_quiet_op); (first | go_big_quiet_on | (refine ⟨_, fun _ => rfl, ?_⟩; go_big_quiet_on)))))
          | ((with_reducible (first | (show wpOne _ _ _ _ 7 1 _ _ _) | (show wpOne _ _ _ _ 9 1 _ _ _) | (show wpOne _ _ _ _ 10 1 _ _ _) | (show wpOne _ _ _ _ 11 1 _ _ _))); (first | (refine wpOne_skip rfl rfl ?_; (try go_simp)) | (refine wpOne_1 rfl rfl ?_; intro K hK; go_simp; refine hK _ _ ?_ ?_; (focus (exact stw HS)); clear hK K)))
          | ((with_reducible ((show wpOne _ _ _ _ 8 1 _ _ _))); (first | (refine wpOne_skip rfl rfl ?_; (try go_simp)) | (refine wpOne_1 rfl rfl ?_; intro K hK; (first | (refine wp_loadS_st  _ _ rfl rfl HS tk sc_int rfx ?_)); (try go_simp); refine hK _ _ ?_ ?_; (focus (exact stw HS)); clear hK K)))
          | ((with_reducible ((show wpOne _ _ _ _ 12 2 _ _ _))); (first | (refine wpOne_skip rfl rfl ?_; (try go_simp)) | (refine wpOne_2 rfl rfl ?_; intro K hK; go_simp; (first | (go_at_call 66; (with_reducible refine (dmaReadS_any _ _ l ps d (b + 16 * (c % s)) 16 _ (k1.ex HS.ex) (k2.ex HS.ex) hd.out HSI.out (by unfold i64ok; omega) HD.out).mono ?_); rintro e w' ⟨rfl, hx⟩; replace HS := HS.grow hx; clear hx)); (try go_simp); refine hK _ _ ?_; clear hK K)))
          | ((with_reducible (first | (show wpOne _ _ _ _ 13 2 _ _ _) | (show wpOne _ _ _ _ 16 2 _ _ _) | (show wpOne _ _ _ _ 17 2 _ _ _))); (first | (refine wpOne_skip rfl rfl ?_; (try go_simp)) | (refine wpOne_2 rfl rfl ?_; intro K hK; go_simp; refine hK _ _ ?_; clear hK K)))
          | ((with_reducible ((show wpPlan _ _ _ _ (.pure _ _) _ _))); (first | (refine wpPlan_skipP rfl rfl ?_; (try go_simp)) | (refine wpPlan_pure rfl rfl ?_; intro K hK; go_big_quiet_op; (first | go_big_quiet_on | (refine ⟨_, fun _ => rfl, ?_⟩; go_big_quiet_on)))))
          | (with_reducible refine wpPlan_done ?_))
        all_goals
          go_wp2_with (first
                | (go_at_call 68; (with_reducible refine (l25Phase_any b s c _ HQ.out).mono ?_); rintro e w' ⟨rfl, hx⟩; rw [HPH.out]; replace HS := HS.grow hx; clear hx)
                | (go_at_call 67; (with_reducible refine (decodeS_t t hts.out ht1.out ht2.out h3.out _).mono ?_); rintro e w' ⟨rfl, hx⟩; replace HS := HS.grow hx; clear hx)
                | ((with_reducible (show wpList _ _ _ (Oper.mk (some 13) (Op.alloc _) _ _ _ _ :: _) _ _)); refine wpList_alloc_st (o := ⟨some 13, .alloc _, _, _, _, _⟩) rfl _ rfl zc_impl_Completion HS ?_; clear HS; intro w13 b13 hb13 HS)
                | ((with_reducible (show wpList _ _ _ (Oper.mk none (Op.store _ (.tmp 13) _) _ _ _ _ :: _) _ _)); refine wpList_store_st (o := ⟨none, .store _ (.tmp 13) _, _, _, _, _⟩) rfl _ _ _ rfl rfl (v := .agg (List.toArray _)) rfl HS tk sz_impl_Completion vcs rfx rfx (by simp) ?_ rfl; clear HS; intro w4_7 hz4_7 HS; simp only [nicL, Value.cells, List.append_nil] at HS)
                | ((with_reducible (show wpList _ _ _ (Oper.mk (some 51) (Op.load _ _) _ _ _ _ :: _) _ _)); refine wpList_loadA_st (o := ⟨some 51, .load _ _, _, _, _, _⟩) rfl _ _ rfl rfl HS tk ag_impl_CompletionQueue lit rfl ?_))
          refine wp_region_plan_st (HS.arr (show Arr _ [rowA b7 _ _] from ary)) (.early 1 (.forced 0 1 (.forced 2 1 (.forced 3 2 (.forced 4 2 .done))))) (by kernel_rfl) (by as_aux_lemma => kernel_rfl) ?_
          intro hne
          replace HS := HS.drew
          try go_simp
          repeat' (first
            | (with_reducible refine wpPlan_forced ?_)
            | ((with_reducible ((show wpPlan _ _ _ _ (.early 1 _) _ _))); (first | (refine wpPlan_skipE rfl rfl ?_; (try go_simp)) | (refine wpPlan_early rfl rfl ?_; intro K hK; (first | ((refine quiet_loadA_st  _ _ rfl rfl tk ag_impl_CompletionQueue lit rfl ?_); (try go_simp)) | go_big_quiet_op); (first | go_big_quiet_on | (refine ⟨_, fun _ => rfl, ?_⟩; go_big_quiet_on)))))
            | ((with_reducible ((show wpOne _ _ _ _ 0 1 _ _ _))); (first | (refine wpOne_skip rfl rfl ?_; (try go_simp)) | (refine wpOne_1 rfl rfl ?_; intro K hK; go_simp; refine hK _ _ ?_ ?_; (focus (exact stw HS)); clear hK K)))
            | ((with_reducible ((show wpOne _ _ _ _ 2 1 _ _ _))); (first | (refine wpOne_skip rfl rfl ?_; (try go_simp)) | (refine wpOne_1 rfl rfl ?_; intro K hK; (first | (refine wp_store_st  _ _ _ rfl rfl (v := .agg (List.toArray _)) rfl HS tk sz_impl_Completion vcs rfx rfx (by simp) ?_ rfl; clear HS; intro w6_2 hz6_2 HS; simp only [nicL, Value.cells, List.append_nil] at HS) | (refine wp_store_st  _ _ _ rfl rfl (v := .agg _) rfl HS tk sz_impl_Completion vcs rfx rfx (by simp) ?_ rfl; clear HS; intro w6_2 hz6_2 HS; simp only [nicL, Value.cells, List.append_nil] at HS)); (try go_simp); refine hK _ _ ?_ ?_; (focus (exact stw HS)); clear hK K)))
            | ((with_reducible ((show wpOne _ _ _ _ 3 2 _ _ _))); (first | (refine wpOne_skip rfl rfl ?_; (try go_simp)) | (refine wpOne_2 rfl rfl ?_; intro K hK; (first | (refine wp_store_st  _ _ _ rfl rfl (v := .agg (List.toArray _)) rfl HS tk sz_impl_CompletionQueue vcs rfx rfx (by simp) ?_ rfl; clear HS; intro w6_3 hz6_3 HS; simp only [nicL, Value.cells, List.append_nil] at HS) | (refine wp_store_st  _ _ _ rfl rfl (v := .agg _) rfl HS tk sz_impl_CompletionQueue vcs rfx rfx (by simp) ?_ rfl; clear HS; intro w6_3 hz6_3 HS; simp only [nicL, Value.cells, List.append_nil] at HS)); (try go_simp); refine hK _ _ ?_; clear hK K)))
            | ((with_reducible ((show wpOne _ _ _ _ 4 2 _ _ _))); (first | (refine wpOne_skip rfl rfl ?_; (try go_simp)) | (refine wpOne_2 rfl rfl ?_; intro K hK; go_simp; refine hK _ _ ?_; clear hK K)))
            | (with_reducible refine wpPlan_done ?_))
          go_wp2
          refine bodyPost_rets rfx (RVs.cell rfx HS tk ag_impl_Completion rfx (RVs.cell rfx HS tk ag_impl_CompletionQueue rfx (RVs.tmp rfx RVs.nil))) (by simp) rfx ?_
          exact ⟨rfl, HS.ex⟩
      case pos =>
        rw [if_pos h2] at hr
        simp only [Prod.mk.injEq] at hr
        obtain ⟨⟨rfl, rfl, rfl, rfl, rfl⟩, rfl, rfl⟩ := hr
        have h4 : (get32 t 12 != ph) = false := by simp [h2]
        have HM : Hid (nextC s c = (c + 1) % (2 * s)) := hid rfl
        have q3 : (c + 1).tmod (2 * s) = (c + 1) % (2 * s) := Int.tmod_eq_emod_of_nonneg (by omega)
        have q4 : 2 * s ≠ 0 := by omega
        have q5 : (2 * s == 0) = false := by simp [q4]
        have q6 : c ≤ 31 := by omega
        clear h1 h2
        have HS := St.start w
        go_enter Try.func18, Try.ntmps18
        go_wp2_with (first
              | (go_at_call 65; (with_reducible refine (queueOkS_any b s c _).mono ?_); rintro e w' ⟨rfl, hx⟩; rw [HQ.out]; replace HS := HS.grow hx; clear hx)
              | ((with_reducible (show wpList _ _ _ (Oper.mk (some 5) (Op.box _ _) _ _ _ _ :: _) _ _)); refine wpList_box_st (o := ⟨some 5, .box _ _, _, _, _, _⟩) rfl _ _ rfl (v := .agg (List.toArray _)) rfl HS ?_; clear HS; intro w5 b5 hb5 HS; simp only [Value.cells] at HS)
              | ((with_reducible (show wpList _ _ _ (Oper.mk (some 7) (Op.box _ _) _ _ _ _ :: _) _ _)); refine wpList_box_st (o := ⟨some 7, .box _ _, _, _, _, _⟩) rfl _ _ rfl (v := .agg (List.toArray _)) rfl HS ?_; clear HS; intro w7 b7 hb7 HS; simp only [Value.cells] at HS)
              | ((with_reducible (show wpList _ _ _ (Oper.mk (some 8) (Op.alloc _) _ _ _ _ :: _) _ _)); refine wpList_alloc_st (o := ⟨some 8, .alloc _, _, _, _, _⟩) rfl _ rfl zc_impl_Completion HS ?_; clear HS; intro w8 b8 hb8 HS)
              | ((with_reducible (show wpList _ _ _ (Oper.mk (some 9) (Op.alloc _) _ _ _ _ :: _) _ _)); refine wpList_alloc_st (o := ⟨some 9, .alloc _, _, _, _, _⟩) rfl _ rfl zc_impl_CompletionQueue HS ?_; clear HS; intro w9 b9 hb9 HS)
              | ((with_reducible (show wpList _ _ _ (Oper.mk (some 16) (Op.load _ _) _ _ _ _ :: _) _ _)); refine wpList_loadA_st (o := ⟨some 16, .load _ _, _, _, _, _⟩) rfl _ _ rfl rfl HS tk ag_impl_CompletionQueue lit rfl ?_))
        refine wp_region_plan_st HS (.early 0 (.early 1 (.early 2 (.early 3 (.early 4 (.early 5 (.early 6 (.forced 7 1 (.forced 8 1 (.forced 9 1 (.forced 10 1 (.forced 11 1 (.forced 12 2 (.forced 13 2 (.pure 14 (.pure 15 (.forced 16 2 (.forced 17 2 .done)))))))))))))))))) (by kernel_rfl) (by as_aux_lemma => kernel_rfl) ?_
        intro hne
        replace HS := HS.drew
        try go_simp
        repeat' (first
          | (with_reducible refine wpPlan_forced ?_)
          | ((with_reducible (first | (show wpPlan _ _ _ _ (.early 0 _) _ _) | (show wpPlan _ _ _ _ (.early 2 _) _ _) | (show wpPlan _ _ _ _ (.early 3 _) _ _) | (show wpPlan _ _ _ _ (.early 5 _) _ _))); (first | (refine wpPlan_skipE rfl rfl ?_; (try go_simp)) | (refine wpPlan_early rfl rfl ?_; intro K hK; (first | go_big_quiet_op); (first | go_big_quiet_on | (refine ⟨_, fun _ => rfl, ?_⟩; go_big_quiet_on)))))
          | ((with_reducible ((show wpPlan _ _ _ _ (.early 1 _) _ _))); (first | (refine wpPlan_skipE rfl rfl ?_; (try go_simp)) | (refine wpPlan_early rfl rfl ?_; intro K hK; (first | ((refine quiet_loadA_st  _ _ rfl rfl tk ag_impl_Memory lit rfl ?_); (try go_simp)) | go_big_quiet_op); (first | go_big_quiet_on | (refine ⟨_, fun _ => rfl, ?_⟩; go_big_quiet_on)))))
          | ((with_reducible (first | (show wpPlan _ _ _ _ (.early 4 _) _ _) | (show wpPlan _ _ _ _ (.early 6 _) _ _))); (first | (refine wpPlan_skipE rfl rfl ?_; (try go_simp)) | (refine wpPlan_early rfl rfl ?_; intro K hK; (first | ((refine quiet_loadS_st  _ _ rfl rfl tk sc_int rfx ?_); (try go_simp)) | go_big_quiet_op); (first | go_big_quiet_on | (refine ⟨_, fun _ => rfl, ?_⟩; go_big_quiet_on)))))
          | ((with_reducible (first | (show wpOne _ _ _ _ 7 1 _ _ _) | (show wpOne _ _ _ _ 9 1 _ _ _) | (show wpOne _ _ _ _ 10 1 _ _ _) | (show wpOne _ _ _ _ 11 1 _ _ _))); (first | (refine wpOne_skip rfl rfl ?_; (try go_simp)) | (refine wpOne_1 rfl rfl ?_; intro K hK; go_simp; refine hK _ _ ?_ ?_; (focus (exact stw HS)); clear hK K)))
          | ((with_reducible ((show wpOne _ _ _ _ 8 1 _ _ _))); (first | (refine wpOne_skip rfl rfl ?_; (try go_simp)) | (refine wpOne_1 rfl rfl ?_; intro K hK; (first | (refine wp_loadS_st  _ _ rfl rfl HS tk sc_int rfx ?_)); (try go_simp); refine hK _ _ ?_ ?_; (focus (exact stw HS)); clear hK K)))
          | ((with_reducible ((show wpOne _ _ _ _ 12 2 _ _ _))); (first | (refine wpOne_skip rfl rfl ?_; (try go_simp)) | (refine wpOne_2 rfl rfl ?_; intro K hK; go_simp; (first | (go_at_call 66; (with_reducible refine (dmaReadS_any _ _ l ps d (b + 16 * (c % s)) 16 _ (k1.ex HS.ex) (k2.ex HS.ex) hd.out HSI.out (by unfold i64ok; omega) HD.out).mono ?_); rintro e w' ⟨rfl, hx⟩; replace HS := HS.grow hx; clear hx)); (try go_simp); refine hK _ _ ?_; clear hK K)))
          | ((with_reducible (first | (show wpOne _ _ _ _ 13 2 _ _ _) | (show wpOne _ _ _ _ 16 2 _ _ _) | (show wpOne _ _ _ _ 17 2 _ _ _))); (first | (refine wpOne_skip rfl rfl ?_; (try go_simp)) | (refine wpOne_2 rfl rfl ?_; intro K hK; go_simp; refine hK _ _ ?_; clear hK K)))
          | ((with_reducible ((show wpPlan _ _ _ _ (.pure _ _) _ _))); (first | (refine wpPlan_skipP rfl rfl ?_; (try go_simp)) | (refine wpPlan_pure rfl rfl ?_; intro K hK; go_big_quiet_op; (first | go_big_quiet_on | (refine ⟨_, fun _ => rfl, ?_⟩; go_big_quiet_on)))))
          | (with_reducible refine wpPlan_done ?_))
        all_goals
          go_wp2_with (first
                | (go_at_call 68; (with_reducible refine (l25Phase_any b s c _ HQ.out).mono ?_); rintro e w' ⟨rfl, hx⟩; rw [HPH.out]; replace HS := HS.grow hx; clear hx)
                | (go_at_call 67; (with_reducible refine (decodeS_t t hts.out ht1.out ht2.out h3.out _).mono ?_); rintro e w' ⟨rfl, hx⟩; replace HS := HS.grow hx; clear hx)
                | ((with_reducible (show wpList _ _ _ (Oper.mk (some 13) (Op.alloc _) _ _ _ _ :: _) _ _)); refine wpList_alloc_st (o := ⟨some 13, .alloc _, _, _, _, _⟩) rfl _ rfl zc_impl_Completion HS ?_; clear HS; intro w13 b13 hb13 HS)
                | ((with_reducible (show wpList _ _ _ (Oper.mk none (Op.store _ (.tmp 13) _) _ _ _ _ :: _) _ _)); refine wpList_store_st (o := ⟨none, .store _ (.tmp 13) _, _, _, _, _⟩) rfl _ _ _ rfl rfl (v := .agg (List.toArray _)) rfl HS tk sz_impl_Completion vcs rfx rfx (by simp) ?_ rfl; clear HS; intro w4_7 hz4_7 HS; simp only [nicL, Value.cells, List.append_nil] at HS)
                | ((with_reducible (show wpList _ _ _ (Oper.mk (some 51) (Op.load _ _) _ _ _ _ :: _) _ _)); refine wpList_loadA_st (o := ⟨some 51, .load _ _, _, _, _, _⟩) rfl _ _ rfl rfl HS tk ag_impl_CompletionQueue lit rfl ?_)
                | ((with_reducible (show wpList _ _ _ (Oper.mk (some 58) (Op.load _ _) _ _ _ _ :: _) _ _)); refine wpList_loadS_st (o := ⟨some 58, .load _ _, _, _, _, _⟩) rfl _ _ rfl rfl HS tk sc_int rfx ?_)
                | ((with_reducible (show wpList _ _ _ (Oper.mk (some 61) (Op.load _ _) _ _ _ _ :: _) _ _)); refine wpList_loadS_st (o := ⟨some 61, .load _ _, _, _, _, _⟩) rfl _ _ rfl rfl HS tk sc_int rfx ?_)
                | ((with_reducible (show wpList _ _ _ (Oper.mk none (Op.store _ (.tmp 64) _) _ _ _ _ :: _) _ _)); refine wpList_store_st (o := ⟨none, .store _ (.tmp 64) _, _, _, _, _⟩) rfl _ _ _ rfl rfl (v := .int .i64 _) rfl HS tk sz_int vcs rfx rfx (by simp) ?_ rfl; clear HS; intro w7_8 hz7_8 HS; simp only [nicL, Value.cells, List.append_nil] at HS))
          refine wp_region_plan_st (HS.arr (show Arr _ [rowA b13 _ _, rowA b7 _ _] from ary)) (.early 0 (.early 1 (.forced 2 1 (.forced 3 2 (.forced 4 2 .done))))) (by kernel_rfl) (by as_aux_lemma => kernel_rfl) ?_
          intro hne
          replace HS := HS.drew
          try go_simp
          repeat' (first
            | (with_reducible refine wpPlan_forced ?_)
            | ((with_reducible ((show wpPlan _ _ _ _ (.early 0 _) _ _))); (first | (refine wpPlan_skipE rfl rfl ?_; (try go_simp)) | (refine wpPlan_early rfl rfl ?_; intro K hK; (first | ((refine quiet_loadA_st  _ _ rfl rfl tk ag_impl_Completion lit rfl ?_); (try go_simp)) | go_big_quiet_op); (first | go_big_quiet_on | (refine ⟨_, fun _ => rfl, ?_⟩; go_big_quiet_on)))))
            | ((with_reducible ((show wpPlan _ _ _ _ (.early 1 _) _ _))); (first | (refine wpPlan_skipE rfl rfl ?_; (try go_simp)) | (refine wpPlan_early rfl rfl ?_; intro K hK; (first | ((refine quiet_loadA_st  _ _ rfl rfl tk ag_impl_CompletionQueue lit rfl ?_); (try go_simp)) | go_big_quiet_op); (first | go_big_quiet_on | (refine ⟨_, fun _ => rfl, ?_⟩; go_big_quiet_on)))))
            | ((with_reducible ((show wpOne _ _ _ _ 2 1 _ _ _))); (first | (refine wpOne_skip rfl rfl ?_; (try go_simp)) | (refine wpOne_1 rfl rfl ?_; intro K hK; (first | (refine wp_store_st  _ _ _ rfl rfl (v := .agg (List.toArray _)) rfl HS tk sz_impl_Completion vcs rfx rfx (by simp) ?_ rfl; clear HS; intro w8_2 hz8_2 HS; simp only [nicL, Value.cells, List.append_nil] at HS) | (refine wp_store_st  _ _ _ rfl rfl (v := .agg _) rfl HS tk sz_impl_Completion vcs rfx rfx (by simp) ?_ rfl; clear HS; intro w8_2 hz8_2 HS; simp only [nicL, Value.cells, List.append_nil] at HS)); (try go_simp); refine hK _ _ ?_ ?_; (focus (exact stw HS)); clear hK K)))
            | ((with_reducible ((show wpOne _ _ _ _ 3 2 _ _ _))); (first | (refine wpOne_skip rfl rfl ?_; (try go_simp)) | (refine wpOne_2 rfl rfl ?_; intro K hK; (first | (refine wp_store_st  _ _ _ rfl rfl (v := .agg (List.toArray _)) rfl HS tk sz_impl_CompletionQueue vcs rfx rfx (by simp) ?_ rfl; clear HS; intro w8_3 hz8_3 HS; simp only [nicL, Value.cells, List.append_nil] at HS) | (refine wp_store_st  _ _ _ rfl rfl (v := .agg _) rfl HS tk sz_impl_CompletionQueue vcs rfx rfx (by simp) ?_ rfl; clear HS; intro w8_3 hz8_3 HS; simp only [nicL, Value.cells, List.append_nil] at HS)); (try go_simp); refine hK _ _ ?_; clear hK K)))
            | ((with_reducible ((show wpOne _ _ _ _ 4 2 _ _ _))); (first | (refine wpOne_skip rfl rfl ?_; (try go_simp)) | (refine wpOne_2 rfl rfl ?_; intro K hK; go_simp; refine hK _ _ ?_; clear hK K)))
            | (with_reducible refine wpPlan_done ?_))
          go_wp2
          rw [HM.out]
          refine bodyPost_rets rfx (RVs.cell rfx HS tk ag_impl_Completion rfx (RVs.cell rfx HS tk ag_impl_CompletionQueue rfx (RVs.tmp rfx RVs.nil))) (by simp) rfx ?_
          exact ⟨rfl, HS.ex⟩

end Go.Proofs.Ytelkplponnfkpaa
