/- The laws' helpers over mappings and flat structs. -/
import Derived.Test.YtelkplponnfkpaaRows
import Derived.Test.YtelkplponnfkpaaMLaw2
import Derived.Test.YtelkplponnfkpaaTk
namespace Go.Proofs.Ytelkplponnfkpaa
open Go.RowKit
set_option linter.unusedVariables false
set_option linter.unusedSimpArgs false

set_option maxRecDepth 100000 in
set_option maxHeartbeats 4000000 in
theorem toMapping_any (x1 : Int) (x2 : Int) (x3 : Int) (x4 : Bool) (w : World) :
    Calls Try.prog 69 #[.agg #[.int .i64 x1, .int .i64 x2, .int .i64 x3, .bool x4]] w fun e w' => e = .returned (.agg #[.int .i64 x1, .int .i64 x2, .int .i64 x3, .bool x4]) ∧ Ex w w' := by
  have HS := St.start w
  go_enter Try.func69, Try.ntmps69
  go_wp2_with (first
        | ((with_reducible (show wpList _ _ _ (Oper.mk (some 1) (Op.box _ _) _ _ _ _ :: _) _ _)); refine wpList_box_st (o := ⟨some 1, .box _ _, _, _, _, _⟩) rfl _ _ rfl (v := .agg (List.toArray _)) rfl HS ?_; clear HS; intro w1 b1 hb1 HS; simp only [Value.cells] at HS)
        | ((with_reducible (show wpList _ _ _ (Oper.mk (some 1) (Op.box _ _) _ _ _ _ :: _) _ _)); refine wpList_box_st (o := ⟨some 1, .box _ _, _, _, _, _⟩) rfl _ _ rfl (v := .agg _) rfl HS ?_; clear HS; intro w1 b1 hb1 HS; simp only [Value.cells] at HS)
        | ((with_reducible (show wpList _ _ _ (Oper.mk (some 2) (Op.alloc _) _ _ _ _ :: _) _ _)); refine wpList_alloc_st (o := ⟨some 2, .alloc _, _, _, _, _⟩) rfl _ rfl zc_impl_Mapping HS ?_; clear HS; intro w2 b2 hb2 HS)
        | ((with_reducible (show wpList _ _ _ (Oper.mk (some 3) (Op.alloc _) _ _ _ _ :: _) _ _)); refine wpList_alloc_st (o := ⟨some 3, .alloc _, _, _, _, _⟩) rfl _ rfl zc_impl_Mapping HS ?_; clear HS; intro w3 b3 hb3 HS)
        | ((with_reducible (show wpList _ _ _ (Oper.mk (some 5) (Op.load _ _) _ _ _ _ :: _) _ _)); refine wpList_loadS_st (o := ⟨some 5, .load _ _, _, _, _, _⟩) rfl _ _ rfl rfl HS tk sc_int rfx ?_)
        | ((with_reducible (show wpList _ _ _ (Oper.mk none (Op.store _ (.tmp 6) _) _ _ _ _ :: _) _ _)); refine wpList_store_st (o := ⟨none, .store _ (.tmp 6) _, _, _, _, _⟩) rfl _ _ _ rfl rfl (v := .int .i64 _) rfl HS tk sz_int vcs rfx rfx (by simp) ?_ rfl; clear HS; intro w2_3 hz2_3 HS; simp only [nicL, Value.cells, List.append_nil] at HS)
        | ((with_reducible (show wpList _ _ _ (Oper.mk (some 8) (Op.load _ _) _ _ _ _ :: _) _ _)); refine wpList_loadS_st (o := ⟨some 8, .load _ _, _, _, _, _⟩) rfl _ _ rfl rfl HS tk sc_int rfx ?_)
        | ((with_reducible (show wpList _ _ _ (Oper.mk none (Op.store _ (.tmp 9) _) _ _ _ _ :: _) _ _)); refine wpList_store_st (o := ⟨none, .store _ (.tmp 9) _, _, _, _, _⟩) rfl _ _ _ rfl rfl (v := .int .i64 _) rfl HS tk sz_int vcs rfx rfx (by simp) ?_ rfl; clear HS; intro w3_3 hz3_3 HS; simp only [nicL, Value.cells, List.append_nil] at HS)
        | ((with_reducible (show wpList _ _ _ (Oper.mk (some 11) (Op.load _ _) _ _ _ _ :: _) _ _)); refine wpList_loadS_st (o := ⟨some 11, .load _ _, _, _, _, _⟩) rfl _ _ rfl rfl HS tk sc_int rfx ?_)
        | ((with_reducible (show wpList _ _ _ (Oper.mk none (Op.store _ (.tmp 12) _) _ _ _ _ :: _) _ _)); refine wpList_store_st (o := ⟨none, .store _ (.tmp 12) _, _, _, _, _⟩) rfl _ _ _ rfl rfl (v := .int .i64 _) rfl HS tk sz_int vcs rfx rfx (by simp) ?_ rfl; clear HS; intro w4_3 hz4_3 HS; simp only [nicL, Value.cells, List.append_nil] at HS)
        | ((with_reducible (show wpList _ _ _ (Oper.mk (some 14) (Op.load _ _) _ _ _ _ :: _) _ _)); refine wpList_loadS_st (o := ⟨some 14, .load _ _, _, _, _, _⟩) rfl _ _ rfl rfl HS tk sc_bool rfx ?_)
        | ((with_reducible (show wpList _ _ _ (Oper.mk none (Op.store _ (.tmp 15) _) _ _ _ _ :: _) _ _)); refine wpList_store_st (o := ⟨none, .store _ (.tmp 15) _, _, _, _, _⟩) rfl _ _ _ rfl rfl (v := .bool _) rfl HS tk sz_bool vcs rfx rfx (by simp) ?_ rfl; clear HS; intro w5_3 hz5_3 HS; simp only [nicL, Value.cells, List.append_nil] at HS)
        | ((with_reducible (show wpList _ _ _ (Oper.mk (some 16) (Op.load _ _) _ _ _ _ :: _) _ _)); refine wpList_loadA_st (o := ⟨some 16, .load _ _, _, _, _, _⟩) rfl _ _ rfl rfl HS tk ag_impl_Mapping lit rfl ?_)
        | ((with_reducible (show wpList _ _ _ (Oper.mk none (Op.store _ (.tmp 2) _) _ _ _ _ :: _) _ _)); refine wpList_store_st (o := ⟨none, .store _ (.tmp 2) _, _, _, _, _⟩) rfl _ _ _ rfl rfl (v := .agg (List.toArray _)) rfl HS tk sz_impl_Mapping vcs rfx rfx (by simp) ?_ rfl; clear HS; intro w6_1 hz6_1 HS; simp only [nicL, Value.cells, List.append_nil] at HS)
        | ((with_reducible (show wpList _ _ _ (Oper.mk none (Op.store _ (.tmp 2) _) _ _ _ _ :: _) _ _)); refine wpList_store_st (o := ⟨none, .store _ (.tmp 2) _, _, _, _, _⟩) rfl _ _ _ rfl rfl (v := .agg _) rfl HS tk sz_impl_Mapping vcs rfx rfx (by simp) ?_ rfl; clear HS; intro w6_1 hz6_1 HS; simp only [nicL, Value.cells, List.append_nil] at HS))
  refine bodyPost_retc rfx rfx HS tk ag_impl_Mapping rfx rfx ?_
  exact ⟨rfl, HS.ex⟩

set_option maxRecDepth 100000 in
set_option maxHeartbeats 4000000 in
theorem toCompletion_any (x1 : Int) (x2 : Int) (x3 : Int) (x4 : Int) (x5 : Int) (w : World) :
    Calls Try.prog 27 #[.agg #[.int .i64 x1, .int .i64 x2, .int .i64 x3, .int .i64 x4, .int .i64 x5]] w fun e w' => e = .returned (.agg #[.int .i64 x1, .int .i64 x2, .int .i64 x3, .int .i64 x4, .int .i64 x5]) ∧ Ex w w' := by
  have HS := St.start w
  go_enter Try.func27, Try.ntmps27
  go_wp2_with (first
        | ((with_reducible (show wpList _ _ _ (Oper.mk (some 1) (Op.box _ _) _ _ _ _ :: _) _ _)); refine wpList_box_st (o := ⟨some 1, .box _ _, _, _, _, _⟩) rfl _ _ rfl (v := .agg (List.toArray _)) rfl HS ?_; clear HS; intro w1 b1 hb1 HS; simp only [Value.cells] at HS)
        | ((with_reducible (show wpList _ _ _ (Oper.mk (some 1) (Op.box _ _) _ _ _ _ :: _) _ _)); refine wpList_box_st (o := ⟨some 1, .box _ _, _, _, _, _⟩) rfl _ _ rfl (v := .agg _) rfl HS ?_; clear HS; intro w1 b1 hb1 HS; simp only [Value.cells] at HS)
        | ((with_reducible (show wpList _ _ _ (Oper.mk (some 2) (Op.alloc _) _ _ _ _ :: _) _ _)); refine wpList_alloc_st (o := ⟨some 2, .alloc _, _, _, _, _⟩) rfl _ rfl zc_impl_Completion HS ?_; clear HS; intro w2 b2 hb2 HS)
        | ((with_reducible (show wpList _ _ _ (Oper.mk (some 3) (Op.alloc _) _ _ _ _ :: _) _ _)); refine wpList_alloc_st (o := ⟨some 3, .alloc _, _, _, _, _⟩) rfl _ rfl zc_impl_Completion HS ?_; clear HS; intro w3 b3 hb3 HS)
        | ((with_reducible (show wpList _ _ _ (Oper.mk (some 5) (Op.load _ _) _ _ _ _ :: _) _ _)); refine wpList_loadS_st (o := ⟨some 5, .load _ _, _, _, _, _⟩) rfl _ _ rfl rfl HS tk sc_int rfx ?_)
        | ((with_reducible (show wpList _ _ _ (Oper.mk none (Op.store _ (.tmp 6) _) _ _ _ _ :: _) _ _)); refine wpList_store_st (o := ⟨none, .store _ (.tmp 6) _, _, _, _, _⟩) rfl _ _ _ rfl rfl (v := .int .i64 _) rfl HS tk sz_int vcs rfx rfx (by simp) ?_ rfl; clear HS; intro w2_3 hz2_3 HS; simp only [nicL, Value.cells, List.append_nil] at HS)
        | ((with_reducible (show wpList _ _ _ (Oper.mk (some 8) (Op.load _ _) _ _ _ _ :: _) _ _)); refine wpList_loadS_st (o := ⟨some 8, .load _ _, _, _, _, _⟩) rfl _ _ rfl rfl HS tk sc_int rfx ?_)
        | ((with_reducible (show wpList _ _ _ (Oper.mk none (Op.store _ (.tmp 9) _) _ _ _ _ :: _) _ _)); refine wpList_store_st (o := ⟨none, .store _ (.tmp 9) _, _, _, _, _⟩) rfl _ _ _ rfl rfl (v := .int .i64 _) rfl HS tk sz_int vcs rfx rfx (by simp) ?_ rfl; clear HS; intro w3_3 hz3_3 HS; simp only [nicL, Value.cells, List.append_nil] at HS)
        | ((with_reducible (show wpList _ _ _ (Oper.mk (some 11) (Op.load _ _) _ _ _ _ :: _) _ _)); refine wpList_loadS_st (o := ⟨some 11, .load _ _, _, _, _, _⟩) rfl _ _ rfl rfl HS tk sc_int rfx ?_)
        | ((with_reducible (show wpList _ _ _ (Oper.mk none (Op.store _ (.tmp 12) _) _ _ _ _ :: _) _ _)); refine wpList_store_st (o := ⟨none, .store _ (.tmp 12) _, _, _, _, _⟩) rfl _ _ _ rfl rfl (v := .int .i64 _) rfl HS tk sz_int vcs rfx rfx (by simp) ?_ rfl; clear HS; intro w4_3 hz4_3 HS; simp only [nicL, Value.cells, List.append_nil] at HS)
        | ((with_reducible (show wpList _ _ _ (Oper.mk (some 14) (Op.load _ _) _ _ _ _ :: _) _ _)); refine wpList_loadS_st (o := ⟨some 14, .load _ _, _, _, _, _⟩) rfl _ _ rfl rfl HS tk sc_int rfx ?_)
        | ((with_reducible (show wpList _ _ _ (Oper.mk none (Op.store _ (.tmp 15) _) _ _ _ _ :: _) _ _)); refine wpList_store_st (o := ⟨none, .store _ (.tmp 15) _, _, _, _, _⟩) rfl _ _ _ rfl rfl (v := .int .i64 _) rfl HS tk sz_int vcs rfx rfx (by simp) ?_ rfl; clear HS; intro w5_3 hz5_3 HS; simp only [nicL, Value.cells, List.append_nil] at HS)
        | ((with_reducible (show wpList _ _ _ (Oper.mk (some 17) (Op.load _ _) _ _ _ _ :: _) _ _)); refine wpList_loadS_st (o := ⟨some 17, .load _ _, _, _, _, _⟩) rfl _ _ rfl rfl HS tk sc_int rfx ?_)
        | ((with_reducible (show wpList _ _ _ (Oper.mk none (Op.store _ (.tmp 18) _) _ _ _ _ :: _) _ _)); refine wpList_store_st (o := ⟨none, .store _ (.tmp 18) _, _, _, _, _⟩) rfl _ _ _ rfl rfl (v := .int .i64 _) rfl HS tk sz_int vcs rfx rfx (by simp) ?_ rfl; clear HS; intro w6_3 hz6_3 HS; simp only [nicL, Value.cells, List.append_nil] at HS)
        | ((with_reducible (show wpList _ _ _ (Oper.mk (some 19) (Op.load _ _) _ _ _ _ :: _) _ _)); refine wpList_loadA_st (o := ⟨some 19, .load _ _, _, _, _, _⟩) rfl _ _ rfl rfl HS tk ag_impl_Completion lit rfl ?_)
        | ((with_reducible (show wpList _ _ _ (Oper.mk none (Op.store _ (.tmp 2) _) _ _ _ _ :: _) _ _)); refine wpList_store_st (o := ⟨none, .store _ (.tmp 2) _, _, _, _, _⟩) rfl _ _ _ rfl rfl (v := .agg (List.toArray _)) rfl HS tk sz_impl_Completion vcs rfx rfx (by simp) ?_ rfl; clear HS; intro w7_1 hz7_1 HS; simp only [nicL, Value.cells, List.append_nil] at HS)
        | ((with_reducible (show wpList _ _ _ (Oper.mk none (Op.store _ (.tmp 2) _) _ _ _ _ :: _) _ _)); refine wpList_store_st (o := ⟨none, .store _ (.tmp 2) _, _, _, _, _⟩) rfl _ _ _ rfl rfl (v := .agg _) rfl HS tk sz_impl_Completion vcs rfx rfx (by simp) ?_ rfl; clear HS; intro w7_1 hz7_1 HS; simp only [nicL, Value.cells, List.append_nil] at HS))
  refine bodyPost_retc rfx rfx HS tk ag_impl_Completion rfx rfx ?_
  exact ⟨rfl, HS.ex⟩

set_option maxRecDepth 100000 in
set_option maxHeartbeats 4000000 in
theorem toCompletionQueue_any (x1 : Int) (x2 : Int) (x3 : Int) (w : World) :
    Calls Try.prog 21 #[.agg #[.int .i64 x1, .int .i64 x2, .int .i64 x3]] w fun e w' => e = .returned (.agg #[.int .i64 x1, .int .i64 x2, .int .i64 x3]) ∧ Ex w w' := by
  have HS := St.start w
  go_enter Try.func21, Try.ntmps21
  go_wp2_with (first
        | ((with_reducible (show wpList _ _ _ (Oper.mk (some 1) (Op.box _ _) _ _ _ _ :: _) _ _)); refine wpList_box_st (o := ⟨some 1, .box _ _, _, _, _, _⟩) rfl _ _ rfl (v := .agg (List.toArray _)) rfl HS ?_; clear HS; intro w1 b1 hb1 HS; simp only [Value.cells] at HS)
        | ((with_reducible (show wpList _ _ _ (Oper.mk (some 1) (Op.box _ _) _ _ _ _ :: _) _ _)); refine wpList_box_st (o := ⟨some 1, .box _ _, _, _, _, _⟩) rfl _ _ rfl (v := .agg _) rfl HS ?_; clear HS; intro w1 b1 hb1 HS; simp only [Value.cells] at HS)
        | ((with_reducible (show wpList _ _ _ (Oper.mk (some 2) (Op.alloc _) _ _ _ _ :: _) _ _)); refine wpList_alloc_st (o := ⟨some 2, .alloc _, _, _, _, _⟩) rfl _ rfl zc_impl_CompletionQueue HS ?_; clear HS; intro w2 b2 hb2 HS)
        | ((with_reducible (show wpList _ _ _ (Oper.mk (some 3) (Op.alloc _) _ _ _ _ :: _) _ _)); refine wpList_alloc_st (o := ⟨some 3, .alloc _, _, _, _, _⟩) rfl _ rfl zc_impl_CompletionQueue HS ?_; clear HS; intro w3 b3 hb3 HS)
        | ((with_reducible (show wpList _ _ _ (Oper.mk (some 5) (Op.load _ _) _ _ _ _ :: _) _ _)); refine wpList_loadS_st (o := ⟨some 5, .load _ _, _, _, _, _⟩) rfl _ _ rfl rfl HS tk sc_int rfx ?_)
        | ((with_reducible (show wpList _ _ _ (Oper.mk none (Op.store _ (.tmp 6) _) _ _ _ _ :: _) _ _)); refine wpList_store_st (o := ⟨none, .store _ (.tmp 6) _, _, _, _, _⟩) rfl _ _ _ rfl rfl (v := .int .i64 _) rfl HS tk sz_int vcs rfx rfx (by simp) ?_ rfl; clear HS; intro w2_3 hz2_3 HS; simp only [nicL, Value.cells, List.append_nil] at HS)
        | ((with_reducible (show wpList _ _ _ (Oper.mk (some 8) (Op.load _ _) _ _ _ _ :: _) _ _)); refine wpList_loadS_st (o := ⟨some 8, .load _ _, _, _, _, _⟩) rfl _ _ rfl rfl HS tk sc_int rfx ?_)
        | ((with_reducible (show wpList _ _ _ (Oper.mk none (Op.store _ (.tmp 9) _) _ _ _ _ :: _) _ _)); refine wpList_store_st (o := ⟨none, .store _ (.tmp 9) _, _, _, _, _⟩) rfl _ _ _ rfl rfl (v := .int .i64 _) rfl HS tk sz_int vcs rfx rfx (by simp) ?_ rfl; clear HS; intro w3_3 hz3_3 HS; simp only [nicL, Value.cells, List.append_nil] at HS)
        | ((with_reducible (show wpList _ _ _ (Oper.mk (some 11) (Op.load _ _) _ _ _ _ :: _) _ _)); refine wpList_loadS_st (o := ⟨some 11, .load _ _, _, _, _, _⟩) rfl _ _ rfl rfl HS tk sc_int rfx ?_)
        | ((with_reducible (show wpList _ _ _ (Oper.mk none (Op.store _ (.tmp 12) _) _ _ _ _ :: _) _ _)); refine wpList_store_st (o := ⟨none, .store _ (.tmp 12) _, _, _, _, _⟩) rfl _ _ _ rfl rfl (v := .int .i64 _) rfl HS tk sz_int vcs rfx rfx (by simp) ?_ rfl; clear HS; intro w4_3 hz4_3 HS; simp only [nicL, Value.cells, List.append_nil] at HS)
        | ((with_reducible (show wpList _ _ _ (Oper.mk (some 13) (Op.load _ _) _ _ _ _ :: _) _ _)); refine wpList_loadA_st (o := ⟨some 13, .load _ _, _, _, _, _⟩) rfl _ _ rfl rfl HS tk ag_impl_CompletionQueue lit rfl ?_)
        | ((with_reducible (show wpList _ _ _ (Oper.mk none (Op.store _ (.tmp 2) _) _ _ _ _ :: _) _ _)); refine wpList_store_st (o := ⟨none, .store _ (.tmp 2) _, _, _, _, _⟩) rfl _ _ _ rfl rfl (v := .agg (List.toArray _)) rfl HS tk sz_impl_CompletionQueue vcs rfx rfx (by simp) ?_ rfl; clear HS; intro w5_1 hz5_1 HS; simp only [nicL, Value.cells, List.append_nil] at HS)
        | ((with_reducible (show wpList _ _ _ (Oper.mk none (Op.store _ (.tmp 2) _) _ _ _ _ :: _) _ _)); refine wpList_store_st (o := ⟨none, .store _ (.tmp 2) _, _, _, _, _⟩) rfl _ _ _ rfl rfl (v := .agg _) rfl HS tk sz_impl_CompletionQueue vcs rfx rfx (by simp) ?_ rfl; clear HS; intro w5_1 hz5_1 HS; simp only [nicL, Value.cells, List.append_nil] at HS))
  refine bodyPost_retc rfx rfx HS tk ag_impl_CompletionQueue rfx rfx ?_
  exact ⟨rfl, HS.ex⟩

set_option maxRecDepth 100000 in
set_option maxHeartbeats 4000000 in
theorem toRing_any (x1 : Int) (x2 : Int) (x3 : Int) (x4 : Int) (w : World) :
    Calls Try.prog 36 #[.agg #[.int .i64 x1, .int .i64 x2, .int .i64 x3, .int .i64 x4]] w fun e w' => e = .returned (.agg #[.int .i64 x1, .int .i64 x2, .int .i64 x3, .int .i64 x4]) ∧ Ex w w' := by
  have HS := St.start w
  go_enter Try.func36, Try.ntmps36
  go_wp2_with (first
        | ((with_reducible (show wpList _ _ _ (Oper.mk (some 1) (Op.box _ _) _ _ _ _ :: _) _ _)); refine wpList_box_st (o := ⟨some 1, .box _ _, _, _, _, _⟩) rfl _ _ rfl (v := .agg (List.toArray _)) rfl HS ?_; clear HS; intro w1 b1 hb1 HS; simp only [Value.cells] at HS)
        | ((with_reducible (show wpList _ _ _ (Oper.mk (some 1) (Op.box _ _) _ _ _ _ :: _) _ _)); refine wpList_box_st (o := ⟨some 1, .box _ _, _, _, _, _⟩) rfl _ _ rfl (v := .agg _) rfl HS ?_; clear HS; intro w1 b1 hb1 HS; simp only [Value.cells] at HS)
        | ((with_reducible (show wpList _ _ _ (Oper.mk (some 2) (Op.alloc _) _ _ _ _ :: _) _ _)); refine wpList_alloc_st (o := ⟨some 2, .alloc _, _, _, _, _⟩) rfl _ rfl zc_impl_Ring HS ?_; clear HS; intro w2 b2 hb2 HS)
        | ((with_reducible (show wpList _ _ _ (Oper.mk (some 3) (Op.alloc _) _ _ _ _ :: _) _ _)); refine wpList_alloc_st (o := ⟨some 3, .alloc _, _, _, _, _⟩) rfl _ rfl zc_impl_Ring HS ?_; clear HS; intro w3 b3 hb3 HS)
        | ((with_reducible (show wpList _ _ _ (Oper.mk (some 5) (Op.load _ _) _ _ _ _ :: _) _ _)); refine wpList_loadS_st (o := ⟨some 5, .load _ _, _, _, _, _⟩) rfl _ _ rfl rfl HS tk sc_int rfx ?_)
        | ((with_reducible (show wpList _ _ _ (Oper.mk none (Op.store _ (.tmp 6) _) _ _ _ _ :: _) _ _)); refine wpList_store_st (o := ⟨none, .store _ (.tmp 6) _, _, _, _, _⟩) rfl _ _ _ rfl rfl (v := .int .i64 _) rfl HS tk sz_int vcs rfx rfx (by simp) ?_ rfl; clear HS; intro w2_3 hz2_3 HS; simp only [nicL, Value.cells, List.append_nil] at HS)
        | ((with_reducible (show wpList _ _ _ (Oper.mk (some 8) (Op.load _ _) _ _ _ _ :: _) _ _)); refine wpList_loadS_st (o := ⟨some 8, .load _ _, _, _, _, _⟩) rfl _ _ rfl rfl HS tk sc_int rfx ?_)
        | ((with_reducible (show wpList _ _ _ (Oper.mk none (Op.store _ (.tmp 9) _) _ _ _ _ :: _) _ _)); refine wpList_store_st (o := ⟨none, .store _ (.tmp 9) _, _, _, _, _⟩) rfl _ _ _ rfl rfl (v := .int .i64 _) rfl HS tk sz_int vcs rfx rfx (by simp) ?_ rfl; clear HS; intro w3_3 hz3_3 HS; simp only [nicL, Value.cells, List.append_nil] at HS)
        | ((with_reducible (show wpList _ _ _ (Oper.mk (some 11) (Op.load _ _) _ _ _ _ :: _) _ _)); refine wpList_loadS_st (o := ⟨some 11, .load _ _, _, _, _, _⟩) rfl _ _ rfl rfl HS tk sc_int rfx ?_)
        | ((with_reducible (show wpList _ _ _ (Oper.mk none (Op.store _ (.tmp 12) _) _ _ _ _ :: _) _ _)); refine wpList_store_st (o := ⟨none, .store _ (.tmp 12) _, _, _, _, _⟩) rfl _ _ _ rfl rfl (v := .int .i64 _) rfl HS tk sz_int vcs rfx rfx (by simp) ?_ rfl; clear HS; intro w4_3 hz4_3 HS; simp only [nicL, Value.cells, List.append_nil] at HS)
        | ((with_reducible (show wpList _ _ _ (Oper.mk (some 14) (Op.load _ _) _ _ _ _ :: _) _ _)); refine wpList_loadS_st (o := ⟨some 14, .load _ _, _, _, _, _⟩) rfl _ _ rfl rfl HS tk sc_int rfx ?_)
        | ((with_reducible (show wpList _ _ _ (Oper.mk none (Op.store _ (.tmp 15) _) _ _ _ _ :: _) _ _)); refine wpList_store_st (o := ⟨none, .store _ (.tmp 15) _, _, _, _, _⟩) rfl _ _ _ rfl rfl (v := .int .i64 _) rfl HS tk sz_int vcs rfx rfx (by simp) ?_ rfl; clear HS; intro w5_3 hz5_3 HS; simp only [nicL, Value.cells, List.append_nil] at HS)
        | ((with_reducible (show wpList _ _ _ (Oper.mk (some 16) (Op.load _ _) _ _ _ _ :: _) _ _)); refine wpList_loadA_st (o := ⟨some 16, .load _ _, _, _, _, _⟩) rfl _ _ rfl rfl HS tk ag_impl_Ring lit rfl ?_)
        | ((with_reducible (show wpList _ _ _ (Oper.mk none (Op.store _ (.tmp 2) _) _ _ _ _ :: _) _ _)); refine wpList_store_st (o := ⟨none, .store _ (.tmp 2) _, _, _, _, _⟩) rfl _ _ _ rfl rfl (v := .agg (List.toArray _)) rfl HS tk sz_impl_Ring vcs rfx rfx (by simp) ?_ rfl; clear HS; intro w6_1 hz6_1 HS; simp only [nicL, Value.cells, List.append_nil] at HS)
        | ((with_reducible (show wpList _ _ _ (Oper.mk none (Op.store _ (.tmp 2) _) _ _ _ _ :: _) _ _)); refine wpList_store_st (o := ⟨none, .store _ (.tmp 2) _, _, _, _, _⟩) rfl _ _ _ rfl rfl (v := .agg _) rfl HS tk sz_impl_Ring vcs rfx rfx (by simp) ?_ rfl; clear HS; intro w6_1 hz6_1 HS; simp only [nicL, Value.cells, List.append_nil] at HS))
  refine bodyPost_retc rfx rfx HS tk ag_impl_Ring rfx rfx ?_
  exact ⟨rfl, HS.ex⟩

set_option maxRecDepth 100000 in
set_option maxHeartbeats 4000000 in
theorem eqMapping_same (x1 : Int) (x2 : Int) (x3 : Int) (x4 : Bool) (w : World) :
    Calls Try.prog 71 #[.agg #[.int .i64 x1, .int .i64 x2, .int .i64 x3, .bool x4], .agg #[.int .i64 x1, .int .i64 x2, .int .i64 x3, .bool x4]] w fun e w' => e = .returned (.bool true) ∧ Ex w w' := by
  have e0 : (x1 != x1) = false := by simp
  have e1 : (x2 != x2) = false := by simp
  have e2 : (x3 != x3) = false := by simp
  have e3 : (x4 != x4) = false := by simp
  have HS := St.start w
  go_enter Try.func71, Try.ntmps71
  go_wp2_with (first
        | ((with_reducible (show wpList _ _ _ (Oper.mk (some 2) (Op.box _ _) _ _ _ _ :: _) _ _)); refine wpList_box_st (o := ⟨some 2, .box _ _, _, _, _, _⟩) rfl _ _ rfl (v := .agg (List.toArray _)) rfl HS ?_; clear HS; intro w2 b2 hb2 HS; simp only [Value.cells] at HS)
        | ((with_reducible (show wpList _ _ _ (Oper.mk (some 2) (Op.box _ _) _ _ _ _ :: _) _ _)); refine wpList_box_st (o := ⟨some 2, .box _ _, _, _, _, _⟩) rfl _ _ rfl (v := .agg _) rfl HS ?_; clear HS; intro w2 b2 hb2 HS; simp only [Value.cells] at HS)
        | ((with_reducible (show wpList _ _ _ (Oper.mk (some 3) (Op.box _ _) _ _ _ _ :: _) _ _)); refine wpList_box_st (o := ⟨some 3, .box _ _, _, _, _, _⟩) rfl _ _ rfl (v := .agg (List.toArray _)) rfl HS ?_; clear HS; intro w3 b3 hb3 HS; simp only [Value.cells] at HS)
        | ((with_reducible (show wpList _ _ _ (Oper.mk (some 3) (Op.box _ _) _ _ _ _ :: _) _ _)); refine wpList_box_st (o := ⟨some 3, .box _ _, _, _, _, _⟩) rfl _ _ rfl (v := .agg _) rfl HS ?_; clear HS; intro w3 b3 hb3 HS; simp only [Value.cells] at HS)
        | ((with_reducible (show wpList _ _ _ (Oper.mk (some 6) (Op.load _ _) _ _ _ _ :: _) _ _)); refine wpList_loadS_st (o := ⟨some 6, .load _ _, _, _, _, _⟩) rfl _ _ rfl rfl HS tk sc_int rfx ?_)
        | ((with_reducible (show wpList _ _ _ (Oper.mk (some 8) (Op.load _ _) _ _ _ _ :: _) _ _)); refine wpList_loadS_st (o := ⟨some 8, .load _ _, _, _, _, _⟩) rfl _ _ rfl rfl HS tk sc_int rfx ?_)
        | ((with_reducible (show wpList _ _ _ (Oper.mk (some 11) (Op.load _ _) _ _ _ _ :: _) _ _)); refine wpList_loadS_st (o := ⟨some 11, .load _ _, _, _, _, _⟩) rfl _ _ rfl rfl HS tk sc_int rfx ?_)
        | ((with_reducible (show wpList _ _ _ (Oper.mk (some 13) (Op.load _ _) _ _ _ _ :: _) _ _)); refine wpList_loadS_st (o := ⟨some 13, .load _ _, _, _, _, _⟩) rfl _ _ rfl rfl HS tk sc_int rfx ?_)
        | ((with_reducible (show wpList _ _ _ (Oper.mk (some 16) (Op.load _ _) _ _ _ _ :: _) _ _)); refine wpList_loadS_st (o := ⟨some 16, .load _ _, _, _, _, _⟩) rfl _ _ rfl rfl HS tk sc_int rfx ?_)
        | ((with_reducible (show wpList _ _ _ (Oper.mk (some 18) (Op.load _ _) _ _ _ _ :: _) _ _)); refine wpList_loadS_st (o := ⟨some 18, .load _ _, _, _, _, _⟩) rfl _ _ rfl rfl HS tk sc_int rfx ?_)
        | ((with_reducible (show wpList _ _ _ (Oper.mk (some 21) (Op.load _ _) _ _ _ _ :: _) _ _)); refine wpList_loadS_st (o := ⟨some 21, .load _ _, _, _, _, _⟩) rfl _ _ rfl rfl HS tk sc_bool rfx ?_)
        | ((with_reducible (show wpList _ _ _ (Oper.mk (some 23) (Op.load _ _) _ _ _ _ :: _) _ _)); refine wpList_loadS_st (o := ⟨some 23, .load _ _, _, _, _, _⟩) rfl _ _ rfl rfl HS tk sc_bool rfx ?_))
  go_ret
  exact ⟨rfl, HS.ex⟩

set_option maxRecDepth 100000 in
set_option maxHeartbeats 4000000 in
theorem eqCompletion_same (x1 : Int) (x2 : Int) (x3 : Int) (x4 : Int) (x5 : Int) (w : World) :
    Calls Try.prog 22 #[.agg #[.int .i64 x1, .int .i64 x2, .int .i64 x3, .int .i64 x4, .int .i64 x5], .agg #[.int .i64 x1, .int .i64 x2, .int .i64 x3, .int .i64 x4, .int .i64 x5]] w fun e w' => e = .returned (.bool true) ∧ Ex w w' := by
  have e0 : (x1 != x1) = false := by simp
  have e1 : (x2 != x2) = false := by simp
  have e2 : (x3 != x3) = false := by simp
  have e3 : (x4 != x4) = false := by simp
  have e4 : (x5 != x5) = false := by simp
  have HS := St.start w
  go_enter Try.func22, Try.ntmps22
  go_wp2_with (first
        | ((with_reducible (show wpList _ _ _ (Oper.mk (some 2) (Op.box _ _) _ _ _ _ :: _) _ _)); refine wpList_box_st (o := ⟨some 2, .box _ _, _, _, _, _⟩) rfl _ _ rfl (v := .agg (List.toArray _)) rfl HS ?_; clear HS; intro w2 b2 hb2 HS; simp only [Value.cells] at HS)
        | ((with_reducible (show wpList _ _ _ (Oper.mk (some 2) (Op.box _ _) _ _ _ _ :: _) _ _)); refine wpList_box_st (o := ⟨some 2, .box _ _, _, _, _, _⟩) rfl _ _ rfl (v := .agg _) rfl HS ?_; clear HS; intro w2 b2 hb2 HS; simp only [Value.cells] at HS)
        | ((with_reducible (show wpList _ _ _ (Oper.mk (some 3) (Op.box _ _) _ _ _ _ :: _) _ _)); refine wpList_box_st (o := ⟨some 3, .box _ _, _, _, _, _⟩) rfl _ _ rfl (v := .agg (List.toArray _)) rfl HS ?_; clear HS; intro w3 b3 hb3 HS; simp only [Value.cells] at HS)
        | ((with_reducible (show wpList _ _ _ (Oper.mk (some 3) (Op.box _ _) _ _ _ _ :: _) _ _)); refine wpList_box_st (o := ⟨some 3, .box _ _, _, _, _, _⟩) rfl _ _ rfl (v := .agg _) rfl HS ?_; clear HS; intro w3 b3 hb3 HS; simp only [Value.cells] at HS)
        | ((with_reducible (show wpList _ _ _ (Oper.mk (some 6) (Op.load _ _) _ _ _ _ :: _) _ _)); refine wpList_loadS_st (o := ⟨some 6, .load _ _, _, _, _, _⟩) rfl _ _ rfl rfl HS tk sc_int rfx ?_)
        | ((with_reducible (show wpList _ _ _ (Oper.mk (some 8) (Op.load _ _) _ _ _ _ :: _) _ _)); refine wpList_loadS_st (o := ⟨some 8, .load _ _, _, _, _, _⟩) rfl _ _ rfl rfl HS tk sc_int rfx ?_)
        | ((with_reducible (show wpList _ _ _ (Oper.mk (some 11) (Op.load _ _) _ _ _ _ :: _) _ _)); refine wpList_loadS_st (o := ⟨some 11, .load _ _, _, _, _, _⟩) rfl _ _ rfl rfl HS tk sc_int rfx ?_)
        | ((with_reducible (show wpList _ _ _ (Oper.mk (some 13) (Op.load _ _) _ _ _ _ :: _) _ _)); refine wpList_loadS_st (o := ⟨some 13, .load _ _, _, _, _, _⟩) rfl _ _ rfl rfl HS tk sc_int rfx ?_)
        | ((with_reducible (show wpList _ _ _ (Oper.mk (some 16) (Op.load _ _) _ _ _ _ :: _) _ _)); refine wpList_loadS_st (o := ⟨some 16, .load _ _, _, _, _, _⟩) rfl _ _ rfl rfl HS tk sc_int rfx ?_)
        | ((with_reducible (show wpList _ _ _ (Oper.mk (some 18) (Op.load _ _) _ _ _ _ :: _) _ _)); refine wpList_loadS_st (o := ⟨some 18, .load _ _, _, _, _, _⟩) rfl _ _ rfl rfl HS tk sc_int rfx ?_)
        | ((with_reducible (show wpList _ _ _ (Oper.mk (some 21) (Op.load _ _) _ _ _ _ :: _) _ _)); refine wpList_loadS_st (o := ⟨some 21, .load _ _, _, _, _, _⟩) rfl _ _ rfl rfl HS tk sc_int rfx ?_)
        | ((with_reducible (show wpList _ _ _ (Oper.mk (some 23) (Op.load _ _) _ _ _ _ :: _) _ _)); refine wpList_loadS_st (o := ⟨some 23, .load _ _, _, _, _, _⟩) rfl _ _ rfl rfl HS tk sc_int rfx ?_)
        | ((with_reducible (show wpList _ _ _ (Oper.mk (some 26) (Op.load _ _) _ _ _ _ :: _) _ _)); refine wpList_loadS_st (o := ⟨some 26, .load _ _, _, _, _, _⟩) rfl _ _ rfl rfl HS tk sc_int rfx ?_)
        | ((with_reducible (show wpList _ _ _ (Oper.mk (some 28) (Op.load _ _) _ _ _ _ :: _) _ _)); refine wpList_loadS_st (o := ⟨some 28, .load _ _, _, _, _, _⟩) rfl _ _ rfl rfl HS tk sc_int rfx ?_))
  go_ret
  exact ⟨rfl, HS.ex⟩

set_option maxRecDepth 100000 in
set_option maxHeartbeats 4000000 in
theorem eqCompletionQueue_same (x1 : Int) (x2 : Int) (x3 : Int) (w : World) :
    Calls Try.prog 23 #[.agg #[.int .i64 x1, .int .i64 x2, .int .i64 x3], .agg #[.int .i64 x1, .int .i64 x2, .int .i64 x3]] w fun e w' => e = .returned (.bool true) ∧ Ex w w' := by
  have e0 : (x1 != x1) = false := by simp
  have e1 : (x2 != x2) = false := by simp
  have e2 : (x3 != x3) = false := by simp
  have HS := St.start w
  go_enter Try.func23, Try.ntmps23
  go_wp2_with (first
        | ((with_reducible (show wpList _ _ _ (Oper.mk (some 2) (Op.box _ _) _ _ _ _ :: _) _ _)); refine wpList_box_st (o := ⟨some 2, .box _ _, _, _, _, _⟩) rfl _ _ rfl (v := .agg (List.toArray _)) rfl HS ?_; clear HS; intro w2 b2 hb2 HS; simp only [Value.cells] at HS)
        | ((with_reducible (show wpList _ _ _ (Oper.mk (some 2) (Op.box _ _) _ _ _ _ :: _) _ _)); refine wpList_box_st (o := ⟨some 2, .box _ _, _, _, _, _⟩) rfl _ _ rfl (v := .agg _) rfl HS ?_; clear HS; intro w2 b2 hb2 HS; simp only [Value.cells] at HS)
        | ((with_reducible (show wpList _ _ _ (Oper.mk (some 3) (Op.box _ _) _ _ _ _ :: _) _ _)); refine wpList_box_st (o := ⟨some 3, .box _ _, _, _, _, _⟩) rfl _ _ rfl (v := .agg (List.toArray _)) rfl HS ?_; clear HS; intro w3 b3 hb3 HS; simp only [Value.cells] at HS)
        | ((with_reducible (show wpList _ _ _ (Oper.mk (some 3) (Op.box _ _) _ _ _ _ :: _) _ _)); refine wpList_box_st (o := ⟨some 3, .box _ _, _, _, _, _⟩) rfl _ _ rfl (v := .agg _) rfl HS ?_; clear HS; intro w3 b3 hb3 HS; simp only [Value.cells] at HS)
        | ((with_reducible (show wpList _ _ _ (Oper.mk (some 6) (Op.load _ _) _ _ _ _ :: _) _ _)); refine wpList_loadS_st (o := ⟨some 6, .load _ _, _, _, _, _⟩) rfl _ _ rfl rfl HS tk sc_int rfx ?_)
        | ((with_reducible (show wpList _ _ _ (Oper.mk (some 8) (Op.load _ _) _ _ _ _ :: _) _ _)); refine wpList_loadS_st (o := ⟨some 8, .load _ _, _, _, _, _⟩) rfl _ _ rfl rfl HS tk sc_int rfx ?_)
        | ((with_reducible (show wpList _ _ _ (Oper.mk (some 11) (Op.load _ _) _ _ _ _ :: _) _ _)); refine wpList_loadS_st (o := ⟨some 11, .load _ _, _, _, _, _⟩) rfl _ _ rfl rfl HS tk sc_int rfx ?_)
        | ((with_reducible (show wpList _ _ _ (Oper.mk (some 13) (Op.load _ _) _ _ _ _ :: _) _ _)); refine wpList_loadS_st (o := ⟨some 13, .load _ _, _, _, _, _⟩) rfl _ _ rfl rfl HS tk sc_int rfx ?_)
        | ((with_reducible (show wpList _ _ _ (Oper.mk (some 16) (Op.load _ _) _ _ _ _ :: _) _ _)); refine wpList_loadS_st (o := ⟨some 16, .load _ _, _, _, _, _⟩) rfl _ _ rfl rfl HS tk sc_int rfx ?_)
        | ((with_reducible (show wpList _ _ _ (Oper.mk (some 18) (Op.load _ _) _ _ _ _ :: _) _ _)); refine wpList_loadS_st (o := ⟨some 18, .load _ _, _, _, _, _⟩) rfl _ _ rfl rfl HS tk sc_int rfx ?_))
  go_ret
  exact ⟨rfl, HS.ex⟩

set_option maxRecDepth 100000 in
set_option maxHeartbeats 4000000 in
theorem eqRing_same (x1 : Int) (x2 : Int) (x3 : Int) (x4 : Int) (w : World) :
    Calls Try.prog 39 #[.agg #[.int .i64 x1, .int .i64 x2, .int .i64 x3, .int .i64 x4], .agg #[.int .i64 x1, .int .i64 x2, .int .i64 x3, .int .i64 x4]] w fun e w' => e = .returned (.bool true) ∧ Ex w w' := by
  have e0 : (x1 != x1) = false := by simp
  have e1 : (x2 != x2) = false := by simp
  have e2 : (x3 != x3) = false := by simp
  have e3 : (x4 != x4) = false := by simp
  have HS := St.start w
  go_enter Try.func39, Try.ntmps39
  go_wp2_with (first
        | ((with_reducible (show wpList _ _ _ (Oper.mk (some 2) (Op.box _ _) _ _ _ _ :: _) _ _)); refine wpList_box_st (o := ⟨some 2, .box _ _, _, _, _, _⟩) rfl _ _ rfl (v := .agg (List.toArray _)) rfl HS ?_; clear HS; intro w2 b2 hb2 HS; simp only [Value.cells] at HS)
        | ((with_reducible (show wpList _ _ _ (Oper.mk (some 2) (Op.box _ _) _ _ _ _ :: _) _ _)); refine wpList_box_st (o := ⟨some 2, .box _ _, _, _, _, _⟩) rfl _ _ rfl (v := .agg _) rfl HS ?_; clear HS; intro w2 b2 hb2 HS; simp only [Value.cells] at HS)
        | ((with_reducible (show wpList _ _ _ (Oper.mk (some 3) (Op.box _ _) _ _ _ _ :: _) _ _)); refine wpList_box_st (o := ⟨some 3, .box _ _, _, _, _, _⟩) rfl _ _ rfl (v := .agg (List.toArray _)) rfl HS ?_; clear HS; intro w3 b3 hb3 HS; simp only [Value.cells] at HS)
        | ((with_reducible (show wpList _ _ _ (Oper.mk (some 3) (Op.box _ _) _ _ _ _ :: _) _ _)); refine wpList_box_st (o := ⟨some 3, .box _ _, _, _, _, _⟩) rfl _ _ rfl (v := .agg _) rfl HS ?_; clear HS; intro w3 b3 hb3 HS; simp only [Value.cells] at HS)
        | ((with_reducible (show wpList _ _ _ (Oper.mk (some 6) (Op.load _ _) _ _ _ _ :: _) _ _)); refine wpList_loadS_st (o := ⟨some 6, .load _ _, _, _, _, _⟩) rfl _ _ rfl rfl HS tk sc_int rfx ?_)
        | ((with_reducible (show wpList _ _ _ (Oper.mk (some 8) (Op.load _ _) _ _ _ _ :: _) _ _)); refine wpList_loadS_st (o := ⟨some 8, .load _ _, _, _, _, _⟩) rfl _ _ rfl rfl HS tk sc_int rfx ?_)
        | ((with_reducible (show wpList _ _ _ (Oper.mk (some 11) (Op.load _ _) _ _ _ _ :: _) _ _)); refine wpList_loadS_st (o := ⟨some 11, .load _ _, _, _, _, _⟩) rfl _ _ rfl rfl HS tk sc_int rfx ?_)
        | ((with_reducible (show wpList _ _ _ (Oper.mk (some 13) (Op.load _ _) _ _ _ _ :: _) _ _)); refine wpList_loadS_st (o := ⟨some 13, .load _ _, _, _, _, _⟩) rfl _ _ rfl rfl HS tk sc_int rfx ?_)
        | ((with_reducible (show wpList _ _ _ (Oper.mk (some 16) (Op.load _ _) _ _ _ _ :: _) _ _)); refine wpList_loadS_st (o := ⟨some 16, .load _ _, _, _, _, _⟩) rfl _ _ rfl rfl HS tk sc_int rfx ?_)
        | ((with_reducible (show wpList _ _ _ (Oper.mk (some 18) (Op.load _ _) _ _ _ _ :: _) _ _)); refine wpList_loadS_st (o := ⟨some 18, .load _ _, _, _, _, _⟩) rfl _ _ rfl rfl HS tk sc_int rfx ?_)
        | ((with_reducible (show wpList _ _ _ (Oper.mk (some 21) (Op.load _ _) _ _ _ _ :: _) _ _)); refine wpList_loadS_st (o := ⟨some 21, .load _ _, _, _, _, _⟩) rfl _ _ rfl rfl HS tk sc_int rfx ?_)
        | ((with_reducible (show wpList _ _ _ (Oper.mk (some 23) (Op.load _ _) _ _ _ _ :: _) _ _)); refine wpList_loadS_st (o := ⟨some 23, .load _ _, _, _, _, _⟩) rfl _ _ rfl rfl HS tk sc_int rfx ?_))
  go_ret
  exact ⟨rfl, HS.ex⟩

set_option maxRecDepth 100000 in
set_option maxHeartbeats 4000000 in
theorem eqDesc_same (x1 : Int) (x2 : Int) (x3 : Int) (x4 : Int) (x5 : Int) (x6 : Int) (w : World) :
    Calls Try.prog 91 #[.agg #[.int .i64 x1, .int .i64 x2, .int .i64 x3, .int .i64 x4, .int .i64 x5, .int .i64 x6], .agg #[.int .i64 x1, .int .i64 x2, .int .i64 x3, .int .i64 x4, .int .i64 x5, .int .i64 x6]] w fun e w' => e = .returned (.bool true) ∧ Ex w w' := by
  have e0 : (x1 != x1) = false := by simp
  have e1 : (x2 != x2) = false := by simp
  have e2 : (x3 != x3) = false := by simp
  have e3 : (x4 != x4) = false := by simp
  have e4 : (x5 != x5) = false := by simp
  have e5 : (x6 != x6) = false := by simp
  have HS := St.start w
  go_enter Try.func91, Try.ntmps91
  go_wp2_with (first
        | ((with_reducible (show wpList _ _ _ (Oper.mk (some 2) (Op.box _ _) _ _ _ _ :: _) _ _)); refine wpList_box_st (o := ⟨some 2, .box _ _, _, _, _, _⟩) rfl _ _ rfl (v := .agg (List.toArray _)) rfl HS ?_; clear HS; intro w2 b2 hb2 HS; simp only [Value.cells] at HS)
        | ((with_reducible (show wpList _ _ _ (Oper.mk (some 2) (Op.box _ _) _ _ _ _ :: _) _ _)); refine wpList_box_st (o := ⟨some 2, .box _ _, _, _, _, _⟩) rfl _ _ rfl (v := .agg _) rfl HS ?_; clear HS; intro w2 b2 hb2 HS; simp only [Value.cells] at HS)
        | ((with_reducible (show wpList _ _ _ (Oper.mk (some 3) (Op.box _ _) _ _ _ _ :: _) _ _)); refine wpList_box_st (o := ⟨some 3, .box _ _, _, _, _, _⟩) rfl _ _ rfl (v := .agg (List.toArray _)) rfl HS ?_; clear HS; intro w3 b3 hb3 HS; simp only [Value.cells] at HS)
        | ((with_reducible (show wpList _ _ _ (Oper.mk (some 3) (Op.box _ _) _ _ _ _ :: _) _ _)); refine wpList_box_st (o := ⟨some 3, .box _ _, _, _, _, _⟩) rfl _ _ rfl (v := .agg _) rfl HS ?_; clear HS; intro w3 b3 hb3 HS; simp only [Value.cells] at HS)
        | ((with_reducible (show wpList _ _ _ (Oper.mk (some 6) (Op.load _ _) _ _ _ _ :: _) _ _)); refine wpList_loadS_st (o := ⟨some 6, .load _ _, _, _, _, _⟩) rfl _ _ rfl rfl HS tk sc_int rfx ?_)
        | ((with_reducible (show wpList _ _ _ (Oper.mk (some 8) (Op.load _ _) _ _ _ _ :: _) _ _)); refine wpList_loadS_st (o := ⟨some 8, .load _ _, _, _, _, _⟩) rfl _ _ rfl rfl HS tk sc_int rfx ?_)
        | ((with_reducible (show wpList _ _ _ (Oper.mk (some 11) (Op.load _ _) _ _ _ _ :: _) _ _)); refine wpList_loadS_st (o := ⟨some 11, .load _ _, _, _, _, _⟩) rfl _ _ rfl rfl HS tk sc_int rfx ?_)
        | ((with_reducible (show wpList _ _ _ (Oper.mk (some 13) (Op.load _ _) _ _ _ _ :: _) _ _)); refine wpList_loadS_st (o := ⟨some 13, .load _ _, _, _, _, _⟩) rfl _ _ rfl rfl HS tk sc_int rfx ?_)
        | ((with_reducible (show wpList _ _ _ (Oper.mk (some 16) (Op.load _ _) _ _ _ _ :: _) _ _)); refine wpList_loadS_st (o := ⟨some 16, .load _ _, _, _, _, _⟩) rfl _ _ rfl rfl HS tk sc_int rfx ?_)
        | ((with_reducible (show wpList _ _ _ (Oper.mk (some 18) (Op.load _ _) _ _ _ _ :: _) _ _)); refine wpList_loadS_st (o := ⟨some 18, .load _ _, _, _, _, _⟩) rfl _ _ rfl rfl HS tk sc_int rfx ?_)
        | ((with_reducible (show wpList _ _ _ (Oper.mk (some 21) (Op.load _ _) _ _ _ _ :: _) _ _)); refine wpList_loadS_st (o := ⟨some 21, .load _ _, _, _, _, _⟩) rfl _ _ rfl rfl HS tk sc_int rfx ?_)
        | ((with_reducible (show wpList _ _ _ (Oper.mk (some 23) (Op.load _ _) _ _ _ _ :: _) _ _)); refine wpList_loadS_st (o := ⟨some 23, .load _ _, _, _, _, _⟩) rfl _ _ rfl rfl HS tk sc_int rfx ?_)
        | ((with_reducible (show wpList _ _ _ (Oper.mk (some 26) (Op.load _ _) _ _ _ _ :: _) _ _)); refine wpList_loadS_st (o := ⟨some 26, .load _ _, _, _, _, _⟩) rfl _ _ rfl rfl HS tk sc_int rfx ?_)
        | ((with_reducible (show wpList _ _ _ (Oper.mk (some 28) (Op.load _ _) _ _ _ _ :: _) _ _)); refine wpList_loadS_st (o := ⟨some 28, .load _ _, _, _, _, _⟩) rfl _ _ rfl rfl HS tk sc_int rfx ?_)
        | ((with_reducible (show wpList _ _ _ (Oper.mk (some 31) (Op.load _ _) _ _ _ _ :: _) _ _)); refine wpList_loadS_st (o := ⟨some 31, .load _ _, _, _, _, _⟩) rfl _ _ rfl rfl HS tk sc_int rfx ?_)
        | ((with_reducible (show wpList _ _ _ (Oper.mk (some 33) (Op.load _ _) _ _ _ _ :: _) _ _)); refine wpList_loadS_st (o := ⟨some 33, .load _ _, _, _, _, _⟩) rfl _ _ rfl rfl HS tk sc_int rfx ?_))
  go_ret
  exact ⟨rfl, HS.ex⟩

set_option maxRecDepth 100000 in
set_option maxHeartbeats 4000000 in
theorem szMappingS_le (v : Value) (l : List Mp) (left : Int) (w : World) (k1 : Holds w l [v]) (hl : left ≤ 1048576) (hs : (l.length : Int) ≤ left) :
    Calls Try.prog 16 #[v, .int .i64 left] w fun e w' => e = .returned (.int .i64 (left - (l.length : Int))) ∧ Ex w w' := by
  obtain ⟨AA, cap, rfl, z1, z2⟩ := k1.fl
  unfold maxLen at z2
  have HS := St.start w
  go_enter Try.func16, Try.ntmps16
  go_wp2
  go_ret
  exact ⟨rfl, HS.ex⟩

set_option maxRecDepth 100000 in
set_option maxHeartbeats 4000000 in
theorem szMappingS_gt (v : Value) (l : List Mp) (left : Int) (w : World) (k1 : Holds w l [v]) (hl : left ≤ 1048576) (h0 : 0 ≤ left) (hs : left < (l.length : Int)) :
    Calls Try.prog 16 #[v, .int .i64 left] w fun e w' => e = .returned (.int .i64 (-1)) ∧ Ex w w' := by
  obtain ⟨AA, cap, rfl, z1, z2⟩ := k1.fl
  unfold maxLen at z2
  have HS := St.start w
  go_enter Try.func16, Try.ntmps16
  go_wp2
  go_ret
  exact ⟨rfl, HS.ex⟩

set_option maxRecDepth 100000 in
set_option maxHeartbeats 4000000 in
theorem toMappingS_any (v : Value) (l : List Mp) (w : World) (k1 : Holds w l [v]) (hl : l.length ≤ 1099511627776) :
    Calls Try.prog 19 #[v] w (RetSl w l) := by
  obtain ⟨AA, cap, rfl, z1, z2⟩ := k1.fl
  unfold maxLen at z2
  have zok : Flat.ok ((0, 0, 0, false) : Mp) := ⟨(show i64ok 0 from by unfold i64ok; omega), (show i64ok 0 from by unfold i64ok; omega), (show i64ok 0 from by unfold i64ok; omega), trivial⟩
  have HS := St.start w
  go_enter Try.func19, Try.ntmps19
  go_wp2_with (first
        | ((with_reducible (show wpList _ _ _ (Oper.mk (some 7) (Op.makeSlice _ _ _) _ _ _ _ :: _) _ _)); refine wpList_makeF_st (y0 := ((0, 0, 0, false) : Mp)) (o := ⟨some 7, .makeSlice _ _ _, _, _, _, _⟩) rfl _ _ _ rfl _ Try.underlying24 in_impl_Mapping (n := l.length) rfl rfl rfl rfx zok (by omega) mxl HS ?_; clear HS; intro w7 b7 hb7 HS)
        | ((with_reducible (show wpList _ _ _ (Oper.mk (some 19) (Op.load _ _) _ _ _ _ :: _) _ _)); refine wpList_loadH (o := ⟨some 19, .load _ _, _, _, _, _⟩) rfl _ _ rfl rfl HS (fun _ hs => k1.ex hs.ex) HK.out (by first | rfl | (simp; done) | omega) ag_laws_Mapping rfl flt ?_)
        | ((with_reducible (show wpList _ _ _ (Oper.mk none (Op.store _ (.tmp 21) _) _ _ _ _ :: _) _ _)); refine wpList_storeE_st (o := ⟨none, .store _ (.tmp 21) _, _, _, _, _⟩) rfl _ _ _ rfl rfl (v := .agg (List.toArray _)) rfl HS tk sz_impl_Mapping 4 0 rfl (by first | rfl | (simp; done) | omega) hfl vcs rfx rfx HKF.out (el := (xd, xv, xp, xw)) HOK.out rfx (by simp) ?_ rfl; clear HS; intro w5_8 hz5_8 HS))
  rw [← fillL_zero l ((0, 0, 0, false) : Mp)] at HS
  go_loopw [4] (fun i wr => ∃ k : Nat, k ≤ l.length ∧ i = .int .i64 k ∧ St w wr [ownA (fillL l ((0, 0, 0, false) : Mp) k) [.slice (some ⟨b7, 0, none⟩) l.length l.length]]) (fun i _ => l.length - (intOf i).toNat)
  case atStart => exact ⟨0, Nat.zero_le _, rfl, HS⟩
  case round =>
    clear HS
    obtain ⟨k, hkl, rfl, HS⟩ := hrel
    by_cases hlt : k < l.length
    case pos =>
      obtain ⟨b, off, rfl⟩ := k1.flA (by omega)
      have hfl : k < (fillL l ((0, 0, 0, false) : Mp) k).length := by rw [fillL_length _ _ hkl]; exact hlt
      have HST := hid (fillL_set l ((0, 0, 0, false) : Mp) hlt)
      have HKF := hid (fillL_get l ((0, 0, 0, false) : Mp) hlt)
      have HOK : Hid (Flat.ok l[k]) := hid (k1.flok (List.getElem_mem hlt))
      have HK := hid (List.getElem?_eq_getElem hlt)
      generalize l[k] = x at *
      obtain ⟨xd, xv, xp, xw⟩ := x
      go_wp2_with (first
            | (go_at_call 69; (with_reducible refine (toMapping_any xd xv xp xw _).mono ?_); rintro e w' ⟨rfl, hx⟩; replace HS := HS.grow hx; clear hx)
            | ((with_reducible (show wpList _ _ _ (Oper.mk (some 7) (Op.makeSlice _ _ _) _ _ _ _ :: _) _ _)); refine wpList_makeF_st (y0 := ((0, 0, 0, false) : Mp)) (o := ⟨some 7, .makeSlice _ _ _, _, _, _, _⟩) rfl _ _ _ rfl _ Try.underlying24 in_impl_Mapping (n := l.length) rfl rfl rfl rfx zok (by omega) mxl HS ?_; clear HS; intro w7 b7 hb7 HS)
            | ((with_reducible (show wpList _ _ _ (Oper.mk (some 19) (Op.load _ _) _ _ _ _ :: _) _ _)); refine wpList_loadH (o := ⟨some 19, .load _ _, _, _, _, _⟩) rfl _ _ rfl rfl HS (fun _ hs => k1.ex hs.ex) HK.out (by first | rfl | (simp; done) | omega) ag_laws_Mapping rfl flt ?_)
            | ((with_reducible (show wpList _ _ _ (Oper.mk none (Op.store _ (.tmp 21) _) _ _ _ _ :: _) _ _)); refine wpList_storeE_st (o := ⟨none, .store _ (.tmp 21) _, _, _, _, _⟩) rfl _ _ _ rfl rfl (v := .agg (List.toArray _)) rfl HS tk sz_impl_Mapping 4 0 rfl (by first | rfl | (simp; done) | omega) hfl vcs rfx rfx HKF.out (el := (xd, xv, xp, xw)) HOK.out rfx (by simp) ?_ rfl; clear HS; intro w5_8 hz5_8 HS))
      rw [HST.out] at HS
      go_roundw
      case rel => exact ⟨k + 1, hlt, by go_num, (HS.arr (by repeat (first | exact Arr.nil | (with_reducible exact take_all _) | (refine Arr.cons tk ?_) | (refine arr_skip ?_))))⟩
      case measure => simp [intOf]; omega
    case neg =>
      obtain rfl : k = l.length := by omega
      rw [fillL_all] at HS
      go_wp2_with (first
            | ((with_reducible (show wpList _ _ _ (Oper.mk (some 7) (Op.makeSlice _ _ _) _ _ _ _ :: _) _ _)); refine wpList_makeF_st (y0 := ((0, 0, 0, false) : Mp)) (o := ⟨some 7, .makeSlice _ _ _, _, _, _, _⟩) rfl _ _ _ rfl _ Try.underlying24 in_impl_Mapping (n := l.length) rfl rfl rfl rfx zok (by omega) mxl HS ?_; clear HS; intro w7 b7 hb7 HS)
            | ((with_reducible (show wpList _ _ _ (Oper.mk (some 19) (Op.load _ _) _ _ _ _ :: _) _ _)); refine wpList_loadH (o := ⟨some 19, .load _ _, _, _, _, _⟩) rfl _ _ rfl rfl HS (fun _ hs => k1.ex hs.ex) HK.out (by first | rfl | (simp; done) | omega) ag_laws_Mapping rfl flt ?_)
            | ((with_reducible (show wpList _ _ _ (Oper.mk none (Op.store _ (.tmp 21) _) _ _ _ _ :: _) _ _)); refine wpList_storeE_st (o := ⟨none, .store _ (.tmp 21) _, _, _, _, _⟩) rfl _ _ _ rfl rfl (v := .agg (List.toArray _)) rfl HS tk sz_impl_Mapping 4 0 rfl (by first | rfl | (simp; done) | omega) hfl vcs rfx rfx HKF.out (el := (xd, xv, xp, xw)) HOK.out rfx (by simp) ?_ rfl; clear HS; intro w5_8 hz5_8 HS))
      go_ret
      exact HS.ret tk

set_option maxRecDepth 100000 in
set_option maxHeartbeats 4000000 in
theorem eqMappingS_same (v1 v2 : Value) (l : List Mp) (w : World) (k1 : Holds w l [v1]) (k2 : Holds w l [v2]) :
    Calls Try.prog 24 #[v1, v2] w fun e w' => e = .returned (.bool true) ∧ Ex w w' := by
  obtain ⟨AA, cap, rfl, z1, z2⟩ := k1.fl
  unfold maxLen at z2
  obtain ⟨BB, cap2, rfl, y1, y2⟩ := k2.fl
  unfold maxLen at y2
  have HS := St.start w
  go_enter Try.func24, Try.ntmps24
  go_wp2
  go_loopw [5] (fun i wr => ∃ k : Nat, k ≤ l.length ∧ i = .int .i64 k ∧ St w wr []) (fun i _ => l.length - (intOf i).toNat)
  case atStart => exact ⟨0, Nat.zero_le _, rfl, (HS.arr (by repeat (first | exact Arr.nil | (with_reducible exact take_all _) | (refine Arr.cons tk ?_) | (refine arr_skip ?_))))⟩
  case round =>
    clear HS
    obtain ⟨k, hkl, rfl, HS⟩ := hrel
    by_cases hlt : k < l.length
    case pos =>
      obtain ⟨b, off, rfl⟩ := k1.flA (by omega)
      obtain ⟨b', off', rfl⟩ := k2.flA (by omega)
      have HK := hid (List.getElem?_eq_getElem hlt)
      generalize l[k] = x at *
      obtain ⟨xd, xv, xp, xw⟩ := x
      go_wp2
      refine wp_region_plan_st HS (.early 0 (.early 1 (.early 2 (.early 3 (.early 4 (.forced 5 1 (.forced 6 1 (.forced 7 1 (.forced 8 2 (.forced 9 2 .done)))))))))) (by kernel_rfl) (by as_aux_lemma => kernel_rfl) ?_
      intro hne
      replace HS := HS.drew
      try go_simp
      repeat' (first
        | (with_reducible refine wpPlan_forced ?_)
        | ((with_reducible (first | (show wpPlan _ _ _ _ (.early 0 _) _ _) | (show wpPlan _ _ _ _ (.early 1 _) _ _) | (show wpPlan _ _ _ _ (.early 2 _) _ _) | (show wpPlan _ _ _ _ (.early 4 _) _ _))); (first | (refine wpPlan_skipE rfl rfl ?_; (try go_simp)) | (refine wpPlan_early rfl rfl ?_; intro K hK; (first | go_big_quiet_op); (first | go_big_quiet_on | (refine ⟨_, fun _ => rfl, ?_⟩; go_big_quiet_on)))))
        | ((with_reducible ((show wpPlan _ _ _ _ (.early 3 _) _ _))); (first | (refine wpPlan_skipE rfl rfl ?_; (try go_simp)) | (refine wpPlan_early rfl rfl ?_; intro K hK; (first | ((refine quiet_loadH  _ _ rfl rfl (fun _ hs => k1.ex hs.ex) HK.out (by first | rfl | (simp; done) | omega) ag_impl_Mapping rfl flt ?_); (try go_simp)) | go_big_quiet_op); (first | go_big_quiet_on | (refine ⟨_, fun _ => rfl, ?_⟩; go_big_quiet_on)))))
        | ((with_reducible (first | (show wpOne _ _ _ _ 5 1 _ _ _) | (show wpOne _ _ _ _ 6 1 _ _ _))); (first | (refine wpOne_skip rfl rfl ?_; (try go_simp)) | (refine wpOne_1 rfl rfl ?_; intro K hK; go_simp; refine hK _ _ ?_ ?_; (focus (exact stw HS)); clear hK K)))
        | ((with_reducible ((show wpOne _ _ _ _ 7 1 _ _ _))); (first | (refine wpOne_skip rfl rfl ?_; (try go_simp)) | (refine wpOne_1 rfl rfl ?_; intro K hK; (first | (refine wp_loadH  _ _ rfl rfl HS (fun _ hs => k2.ex hs.ex) HK.out (by first | rfl | (simp; done) | omega) ag_impl_Mapping rfl flt ?_)); (try go_simp); refine hK _ _ ?_ ?_; (focus (exact stw HS)); clear hK K)))
        | ((with_reducible ((show wpOne _ _ _ _ 8 2 _ _ _))); (first | (refine wpOne_skip rfl rfl ?_; (try go_simp)) | (refine wpOne_2 rfl rfl ?_; intro K hK; go_simp; (first | (go_at_call 71; (with_reducible refine (eqMapping_same xd xv xp xw _).mono ?_); rintro e w' ⟨rfl, hx⟩; replace HS := HS.grow hx; clear hx)); (try go_simp); refine hK _ _ ?_; clear hK K)))
        | ((with_reducible ((show wpOne _ _ _ _ 9 2 _ _ _))); (first | (refine wpOne_skip rfl rfl ?_; (try go_simp)) | (refine wpOne_2 rfl rfl ?_; intro K hK; go_simp; refine hK _ _ ?_; clear hK K)))
        | (with_reducible refine wpPlan_done ?_))
      go_wp2
      go_roundw
      case rel => exact ⟨k + 1, hlt, by go_num, (HS.arr (by repeat (first | exact Arr.nil | (with_reducible exact take_all _) | (refine Arr.cons tk ?_) | (refine arr_skip ?_))))⟩
      case measure => simp [intOf]; omega
    case neg =>
      obtain rfl : k = l.length := by omega
      go_wp2
      go_ret
      exact ⟨rfl, HS.ex⟩

end Go.Proofs.Ytelkplponnfkpaa
