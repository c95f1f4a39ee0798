/- The laws' helpers over structs in structs. -/
import Derived.Test.YtelkplponnfkpaaRows
import Derived.Test.YtelkplponnfkpaaTy
import Derived.Test.YtelkplponnfkpaaTi
import Derived.Test.YtelkplponnfkpaaScal
import Derived.Test.YtelkplponnfkpaaArr
import Derived.Test.YtelkplponnfkpaaTk
namespace Go.Proofs.Ytelkplponnfkpaa
open Go.RowKit
set_option linter.unusedVariables false
set_option linter.unusedSimpArgs false

set_option maxRecDepth 100000 in
set_option maxHeartbeats 4000000 in
theorem toRing_r (x_Base : Int) (x_Size : Int) (x_Head : Int) (x_Tail : Int) (w : World) :
    Calls Try.prog 36 #[.agg #[.int .i64 x_Base, .int .i64 x_Size, .int .i64 x_Head, .int .i64 x_Tail]] w fun e w' => e = .returned (.agg #[.int .i64 x_Base, .int .i64 x_Size, .int .i64 x_Head, .int .i64 x_Tail]) ∧ Ex w w' := by
  have HS := St.start w
  go_enter Try.func36, Try.ntmps36
  go_wp2_with (first
        | ((with_reducible (show wpList _ _ _ (Oper.mk (some 1) (Op.box _ _) _ _ _ _ :: _) _ _)); refine wpList_box_st (o := ⟨some 1, .box _ _, _, _, _, _⟩) rfl _ _ rfl (v := .agg (List.toArray _)) rfl HS ?_; clear HS; intro w1 b1 hb1 HS; simp only [Value.cells] at HS)
        | ((with_reducible (show wpList _ _ _ (Oper.mk (some 1) (Op.box _ _) _ _ _ _ :: _) _ _)); refine wpList_box_st (o := ⟨some 1, .box _ _, _, _, _, _⟩) rfl _ _ rfl (v := .agg _) rfl HS ?_; clear HS; intro w1 b1 hb1 HS; simp only [Value.cells] at HS)
        | ((with_reducible (show wpList _ _ _ (Oper.mk (some 2) (Op.alloc _) _ _ _ _ :: _) _ _)); refine wpList_alloc_st (o := ⟨some 2, .alloc _, _, _, _, _⟩) rfl _ rfl zc_impl_Ring HS ?_; clear HS; intro w2 b2 hb2 HS)
        | ((with_reducible (show wpList _ _ _ (Oper.mk (some 3) (Op.alloc _) _ _ _ _ :: _) _ _)); refine wpList_alloc_st (o := ⟨some 3, .alloc _, _, _, _, _⟩) rfl _ rfl zc_impl_Ring HS ?_; clear HS; intro w3 b3 hb3 HS)
        | ((with_reducible (show wpList _ _ _ (Oper.mk (some 5) (Op.load _ _) _ _ _ _ :: _) _ _)); refine wpList_loadS_st (o := ⟨some 5, .load _ _, _, _, _, _⟩) rfl _ _ rfl rfl HS tk sc_int rfx ?_)
        | ((with_reducible (show wpList _ _ _ (Oper.mk none (Op.store _ (.tmp 6) _) _ _ _ _ :: _) _ _)); refine wpList_store_st (o := ⟨none, .store _ (.tmp 6) _, _, _, _, _⟩) rfl _ _ _ rfl rfl (v := .int .i64 _) rfl HS tk sz_int vcs rfx rfx (by simp) ?_ rfl; clear HS; intro w2_3 hz2_3 HS; simp only [nicL, Value.cells, List.append_nil] at HS)
        | ((with_reducible (show wpList _ _ _ (Oper.mk (some 8) (Op.load _ _) _ _ _ _ :: _) _ _)); refine wpList_loadS_st (o := ⟨some 8, .load _ _, _, _, _, _⟩) rfl _ _ rfl rfl HS tk sc_int rfx ?_)
        | ((with_reducible (show wpList _ _ _ (Oper.mk none (Op.store _ (.tmp 9) _) _ _ _ _ :: _) _ _)); refine wpList_store_st (o := ⟨none, .store _ (.tmp 9) _, _, _, _, _⟩) rfl _ _ _ rfl rfl (v := .int .i64 _) rfl HS tk sz_int vcs rfx rfx (by simp) ?_ rfl; clear HS; intro w3_3 hz3_3 HS; simp only [nicL, Value.cells, List.append_nil] at HS)
        | ((with_reducible (show wpList _ _ _ (Oper.mk (some 11) (Op.load _ _) _ _ _ _ :: _) _ _)); refine wpList_loadS_st (o := ⟨some 11, .load _ _, _, _, _, _⟩) rfl _ _ rfl rfl HS tk sc_int rfx ?_)
        | ((with_reducible (show wpList _ _ _ (Oper.mk none (Op.store _ (.tmp 12) _) _ _ _ _ :: _) _ _)); refine wpList_store_st (o := ⟨none, .store _ (.tmp 12) _, _, _, _, _⟩) rfl _ _ _ rfl rfl (v := .int .i64 _) rfl HS tk sz_int vcs rfx rfx (by simp) ?_ rfl; clear HS; intro w4_3 hz4_3 HS; simp only [nicL, Value.cells, List.append_nil] at HS)
        | ((with_reducible (show wpList _ _ _ (Oper.mk (some 14) (Op.load _ _) _ _ _ _ :: _) _ _)); refine wpList_loadS_st (o := ⟨some 14, .load _ _, _, _, _, _⟩) rfl _ _ rfl rfl HS tk sc_int rfx ?_)
        | ((with_reducible (show wpList _ _ _ (Oper.mk none (Op.store _ (.tmp 15) _) _ _ _ _ :: _) _ _)); refine wpList_store_st (o := ⟨none, .store _ (.tmp 15) _, _, _, _, _⟩) rfl _ _ _ rfl rfl (v := .int .i64 _) rfl HS tk sz_int vcs rfx rfx (by simp) ?_ rfl; clear HS; intro w5_3 hz5_3 HS; simp only [nicL, Value.cells, List.append_nil] at HS)
        | ((with_reducible (show wpList _ _ _ (Oper.mk (some 16) (Op.load _ _) _ _ _ _ :: _) _ _)); refine wpList_loadA_st (o := ⟨some 16, .load _ _, _, _, _, _⟩) rfl _ _ rfl rfl HS tk ag_impl_Ring lit rfl ?_)
        | ((with_reducible (show wpList _ _ _ (Oper.mk none (Op.store _ (.tmp 2) _) _ _ _ _ :: _) _ _)); refine wpList_store_st (o := ⟨none, .store _ (.tmp 2) _, _, _, _, _⟩) rfl _ _ _ rfl rfl (v := .agg (List.toArray _)) rfl HS tk sz_impl_Ring vcs rfx rfx (by simp) ?_ rfl; clear HS; intro w6_1 hz6_1 HS; simp only [nicL, Value.cells, List.append_nil] at HS)
        | ((with_reducible (show wpList _ _ _ (Oper.mk none (Op.store _ (.tmp 2) _) _ _ _ _ :: _) _ _)); refine wpList_store_st (o := ⟨none, .store _ (.tmp 2) _, _, _, _, _⟩) rfl _ _ _ rfl rfl (v := .agg _) rfl HS tk sz_impl_Ring vcs rfx rfx (by simp) ?_ rfl; clear HS; intro w6_1 hz6_1 HS; simp only [nicL, Value.cells, List.append_nil] at HS))
  refine bodyPost_retc rfx rfx HS tk ag_impl_Ring rfx rfx ?_
  exact ⟨rfl, HS.ex⟩

set_option maxRecDepth 100000 in
set_option maxHeartbeats 4000000 in
theorem eqRing_r (x_Base : Int) (x_Size : Int) (x_Head : Int) (x_Tail : Int) (w : World) :
    Calls Try.prog 39 #[.agg #[.int .i64 x_Base, .int .i64 x_Size, .int .i64 x_Head, .int .i64 x_Tail], .agg #[.int .i64 x_Base, .int .i64 x_Size, .int .i64 x_Head, .int .i64 x_Tail]] w fun e w' => e = .returned (.bool true) ∧ Ex w w' := by
  have e0 : (x_Base != x_Base) = false := by simp
  have e1 : (x_Size != x_Size) = false := by simp
  have e2 : (x_Head != x_Head) = false := by simp
  have e3 : (x_Tail != x_Tail) = false := by simp
  have HS := St.start w
  go_enter Try.func39, Try.ntmps39
  go_wp2_with (first
        | ((with_reducible (show wpList _ _ _ (Oper.mk (some 2) (Op.box _ _) _ _ _ _ :: _) _ _)); refine wpList_box_st (o := ⟨some 2, .box _ _, _, _, _, _⟩) rfl _ _ rfl (v := .agg (List.toArray _)) rfl HS ?_; clear HS; intro w2 b2 hb2 HS; simp only [Value.cells] at HS)
        | ((with_reducible (show wpList _ _ _ (Oper.mk (some 2) (Op.box _ _) _ _ _ _ :: _) _ _)); refine wpList_box_st (o := ⟨some 2, .box _ _, _, _, _, _⟩) rfl _ _ rfl (v := .agg _) rfl HS ?_; clear HS; intro w2 b2 hb2 HS; simp only [Value.cells] at HS)
        | ((with_reducible (show wpList _ _ _ (Oper.mk (some 3) (Op.box _ _) _ _ _ _ :: _) _ _)); refine wpList_box_st (o := ⟨some 3, .box _ _, _, _, _, _⟩) rfl _ _ rfl (v := .agg (List.toArray _)) rfl HS ?_; clear HS; intro w3 b3 hb3 HS; simp only [Value.cells] at HS)
        | ((with_reducible (show wpList _ _ _ (Oper.mk (some 3) (Op.box _ _) _ _ _ _ :: _) _ _)); refine wpList_box_st (o := ⟨some 3, .box _ _, _, _, _, _⟩) rfl _ _ rfl (v := .agg _) rfl HS ?_; clear HS; intro w3 b3 hb3 HS; simp only [Value.cells] at HS)
        | ((with_reducible (show wpList _ _ _ (Oper.mk (some 6) (Op.load _ _) _ _ _ _ :: _) _ _)); refine wpList_loadS_st (o := ⟨some 6, .load _ _, _, _, _, _⟩) rfl _ _ rfl rfl HS tk sc_int rfx ?_)
        | ((with_reducible (show wpList _ _ _ (Oper.mk (some 8) (Op.load _ _) _ _ _ _ :: _) _ _)); refine wpList_loadS_st (o := ⟨some 8, .load _ _, _, _, _, _⟩) rfl _ _ rfl rfl HS tk sc_int rfx ?_)
        | ((with_reducible (show wpList _ _ _ (Oper.mk (some 11) (Op.load _ _) _ _ _ _ :: _) _ _)); refine wpList_loadS_st (o := ⟨some 11, .load _ _, _, _, _, _⟩) rfl _ _ rfl rfl HS tk sc_int rfx ?_)
        | ((with_reducible (show wpList _ _ _ (Oper.mk (some 13) (Op.load _ _) _ _ _ _ :: _) _ _)); refine wpList_loadS_st (o := ⟨some 13, .load _ _, _, _, _, _⟩) rfl _ _ rfl rfl HS tk sc_int rfx ?_)
        | ((with_reducible (show wpList _ _ _ (Oper.mk (some 16) (Op.load _ _) _ _ _ _ :: _) _ _)); refine wpList_loadS_st (o := ⟨some 16, .load _ _, _, _, _, _⟩) rfl _ _ rfl rfl HS tk sc_int rfx ?_)
        | ((with_reducible (show wpList _ _ _ (Oper.mk (some 18) (Op.load _ _) _ _ _ _ :: _) _ _)); refine wpList_loadS_st (o := ⟨some 18, .load _ _, _, _, _, _⟩) rfl _ _ rfl rfl HS tk sc_int rfx ?_)
        | ((with_reducible (show wpList _ _ _ (Oper.mk (some 21) (Op.load _ _) _ _ _ _ :: _) _ _)); refine wpList_loadS_st (o := ⟨some 21, .load _ _, _, _, _, _⟩) rfl _ _ rfl rfl HS tk sc_int rfx ?_)
        | ((with_reducible (show wpList _ _ _ (Oper.mk (some 23) (Op.load _ _) _ _ _ _ :: _) _ _)); refine wpList_loadS_st (o := ⟨some 23, .load _ _, _, _, _, _⟩) rfl _ _ rfl rfl HS tk sc_int rfx ?_))
  go_ret
  exact ⟨rfl, HS.ex⟩

set_option maxRecDepth 100000 in
set_option maxHeartbeats 4000000 in
theorem toCompletionQueue_r (x_Base : Int) (x_Size : Int) (x_Count : Int) (w : World) :
    Calls Try.prog 21 #[.agg #[.int .i64 x_Base, .int .i64 x_Size, .int .i64 x_Count]] w fun e w' => e = .returned (.agg #[.int .i64 x_Base, .int .i64 x_Size, .int .i64 x_Count]) ∧ Ex w w' := by
  have HS := St.start w
  go_enter Try.func21, Try.ntmps21
  go_wp2_with (first
        | ((with_reducible (show wpList _ _ _ (Oper.mk (some 1) (Op.box _ _) _ _ _ _ :: _) _ _)); refine wpList_box_st (o := ⟨some 1, .box _ _, _, _, _, _⟩) rfl _ _ rfl (v := .agg (List.toArray _)) rfl HS ?_; clear HS; intro w1 b1 hb1 HS; simp only [Value.cells] at HS)
        | ((with_reducible (show wpList _ _ _ (Oper.mk (some 1) (Op.box _ _) _ _ _ _ :: _) _ _)); refine wpList_box_st (o := ⟨some 1, .box _ _, _, _, _, _⟩) rfl _ _ rfl (v := .agg _) rfl HS ?_; clear HS; intro w1 b1 hb1 HS; simp only [Value.cells] at HS)
        | ((with_reducible (show wpList _ _ _ (Oper.mk (some 2) (Op.alloc _) _ _ _ _ :: _) _ _)); refine wpList_alloc_st (o := ⟨some 2, .alloc _, _, _, _, _⟩) rfl _ rfl zc_impl_CompletionQueue HS ?_; clear HS; intro w2 b2 hb2 HS)
        | ((with_reducible (show wpList _ _ _ (Oper.mk (some 3) (Op.alloc _) _ _ _ _ :: _) _ _)); refine wpList_alloc_st (o := ⟨some 3, .alloc _, _, _, _, _⟩) rfl _ rfl zc_impl_CompletionQueue HS ?_; clear HS; intro w3 b3 hb3 HS)
        | ((with_reducible (show wpList _ _ _ (Oper.mk (some 5) (Op.load _ _) _ _ _ _ :: _) _ _)); refine wpList_loadS_st (o := ⟨some 5, .load _ _, _, _, _, _⟩) rfl _ _ rfl rfl HS tk sc_int rfx ?_)
        | ((with_reducible (show wpList _ _ _ (Oper.mk none (Op.store _ (.tmp 6) _) _ _ _ _ :: _) _ _)); refine wpList_store_st (o := ⟨none, .store _ (.tmp 6) _, _, _, _, _⟩) rfl _ _ _ rfl rfl (v := .int .i64 _) rfl HS tk sz_int vcs rfx rfx (by simp) ?_ rfl; clear HS; intro w2_3 hz2_3 HS; simp only [nicL, Value.cells, List.append_nil] at HS)
        | ((with_reducible (show wpList _ _ _ (Oper.mk (some 8) (Op.load _ _) _ _ _ _ :: _) _ _)); refine wpList_loadS_st (o := ⟨some 8, .load _ _, _, _, _, _⟩) rfl _ _ rfl rfl HS tk sc_int rfx ?_)
        | ((with_reducible (show wpList _ _ _ (Oper.mk none (Op.store _ (.tmp 9) _) _ _ _ _ :: _) _ _)); refine wpList_store_st (o := ⟨none, .store _ (.tmp 9) _, _, _, _, _⟩) rfl _ _ _ rfl rfl (v := .int .i64 _) rfl HS tk sz_int vcs rfx rfx (by simp) ?_ rfl; clear HS; intro w3_3 hz3_3 HS; simp only [nicL, Value.cells, List.append_nil] at HS)
        | ((with_reducible (show wpList _ _ _ (Oper.mk (some 11) (Op.load _ _) _ _ _ _ :: _) _ _)); refine wpList_loadS_st (o := ⟨some 11, .load _ _, _, _, _, _⟩) rfl _ _ rfl rfl HS tk sc_int rfx ?_)
        | ((with_reducible (show wpList _ _ _ (Oper.mk none (Op.store _ (.tmp 12) _) _ _ _ _ :: _) _ _)); refine wpList_store_st (o := ⟨none, .store _ (.tmp 12) _, _, _, _, _⟩) rfl _ _ _ rfl rfl (v := .int .i64 _) rfl HS tk sz_int vcs rfx rfx (by simp) ?_ rfl; clear HS; intro w4_3 hz4_3 HS; simp only [nicL, Value.cells, List.append_nil] at HS)
        | ((with_reducible (show wpList _ _ _ (Oper.mk (some 13) (Op.load _ _) _ _ _ _ :: _) _ _)); refine wpList_loadA_st (o := ⟨some 13, .load _ _, _, _, _, _⟩) rfl _ _ rfl rfl HS tk ag_impl_CompletionQueue lit rfl ?_)
        | ((with_reducible (show wpList _ _ _ (Oper.mk none (Op.store _ (.tmp 2) _) _ _ _ _ :: _) _ _)); refine wpList_store_st (o := ⟨none, .store _ (.tmp 2) _, _, _, _, _⟩) rfl _ _ _ rfl rfl (v := .agg (List.toArray _)) rfl HS tk sz_impl_CompletionQueue vcs rfx rfx (by simp) ?_ rfl; clear HS; intro w5_1 hz5_1 HS; simp only [nicL, Value.cells, List.append_nil] at HS)
        | ((with_reducible (show wpList _ _ _ (Oper.mk none (Op.store _ (.tmp 2) _) _ _ _ _ :: _) _ _)); refine wpList_store_st (o := ⟨none, .store _ (.tmp 2) _, _, _, _, _⟩) rfl _ _ _ rfl rfl (v := .agg _) rfl HS tk sz_impl_CompletionQueue vcs rfx rfx (by simp) ?_ rfl; clear HS; intro w5_1 hz5_1 HS; simp only [nicL, Value.cells, List.append_nil] at HS))
  refine bodyPost_retc rfx rfx HS tk ag_impl_CompletionQueue rfx rfx ?_
  exact ⟨rfl, HS.ex⟩

set_option maxRecDepth 100000 in
set_option maxHeartbeats 4000000 in
theorem eqCompletionQueue_r (x_Base : Int) (x_Size : Int) (x_Count : Int) (w : World) :
    Calls Try.prog 23 #[.agg #[.int .i64 x_Base, .int .i64 x_Size, .int .i64 x_Count], .agg #[.int .i64 x_Base, .int .i64 x_Size, .int .i64 x_Count]] w fun e w' => e = .returned (.bool true) ∧ Ex w w' := by
  have e0 : (x_Base != x_Base) = false := by simp
  have e1 : (x_Size != x_Size) = false := by simp
  have e2 : (x_Count != x_Count) = false := by simp
  have HS := St.start w
  go_enter Try.func23, Try.ntmps23
  go_wp2_with (first
        | ((with_reducible (show wpList _ _ _ (Oper.mk (some 2) (Op.box _ _) _ _ _ _ :: _) _ _)); refine wpList_box_st (o := ⟨some 2, .box _ _, _, _, _, _⟩) rfl _ _ rfl (v := .agg (List.toArray _)) rfl HS ?_; clear HS; intro w2 b2 hb2 HS; simp only [Value.cells] at HS)
        | ((with_reducible (show wpList _ _ _ (Oper.mk (some 2) (Op.box _ _) _ _ _ _ :: _) _ _)); refine wpList_box_st (o := ⟨some 2, .box _ _, _, _, _, _⟩) rfl _ _ rfl (v := .agg _) rfl HS ?_; clear HS; intro w2 b2 hb2 HS; simp only [Value.cells] at HS)
        | ((with_reducible (show wpList _ _ _ (Oper.mk (some 3) (Op.box _ _) _ _ _ _ :: _) _ _)); refine wpList_box_st (o := ⟨some 3, .box _ _, _, _, _, _⟩) rfl _ _ rfl (v := .agg (List.toArray _)) rfl HS ?_; clear HS; intro w3 b3 hb3 HS; simp only [Value.cells] at HS)
        | ((with_reducible (show wpList _ _ _ (Oper.mk (some 3) (Op.box _ _) _ _ _ _ :: _) _ _)); refine wpList_box_st (o := ⟨some 3, .box _ _, _, _, _, _⟩) rfl _ _ rfl (v := .agg _) rfl HS ?_; clear HS; intro w3 b3 hb3 HS; simp only [Value.cells] at HS)
        | ((with_reducible (show wpList _ _ _ (Oper.mk (some 6) (Op.load _ _) _ _ _ _ :: _) _ _)); refine wpList_loadS_st (o := ⟨some 6, .load _ _, _, _, _, _⟩) rfl _ _ rfl rfl HS tk sc_int rfx ?_)
        | ((with_reducible (show wpList _ _ _ (Oper.mk (some 8) (Op.load _ _) _ _ _ _ :: _) _ _)); refine wpList_loadS_st (o := ⟨some 8, .load _ _, _, _, _, _⟩) rfl _ _ rfl rfl HS tk sc_int rfx ?_)
        | ((with_reducible (show wpList _ _ _ (Oper.mk (some 11) (Op.load _ _) _ _ _ _ :: _) _ _)); refine wpList_loadS_st (o := ⟨some 11, .load _ _, _, _, _, _⟩) rfl _ _ rfl rfl HS tk sc_int rfx ?_)
        | ((with_reducible (show wpList _ _ _ (Oper.mk (some 13) (Op.load _ _) _ _ _ _ :: _) _ _)); refine wpList_loadS_st (o := ⟨some 13, .load _ _, _, _, _, _⟩) rfl _ _ rfl rfl HS tk sc_int rfx ?_)
        | ((with_reducible (show wpList _ _ _ (Oper.mk (some 16) (Op.load _ _) _ _ _ _ :: _) _ _)); refine wpList_loadS_st (o := ⟨some 16, .load _ _, _, _, _, _⟩) rfl _ _ rfl rfl HS tk sc_int rfx ?_)
        | ((with_reducible (show wpList _ _ _ (Oper.mk (some 18) (Op.load _ _) _ _ _ _ :: _) _ _)); refine wpList_loadS_st (o := ⟨some 18, .load _ _, _, _, _, _⟩) rfl _ _ rfl rfl HS tk sc_int rfx ?_))
  go_ret
  exact ⟨rfl, HS.ex⟩

set_option maxRecDepth 100000 in
set_option maxHeartbeats 4000000 in
theorem toCompletion_r (x_Cookie : Int) (x_Len : Int) (x_Size : Int) (x_Count : Int) (x_Hash : Int) (w : World) :
    Calls Try.prog 27 #[.agg #[.int .i64 x_Cookie, .int .i64 x_Len, .int .i64 x_Size, .int .i64 x_Count, .int .i64 x_Hash]] w fun e w' => e = .returned (.agg #[.int .i64 x_Cookie, .int .i64 x_Len, .int .i64 x_Size, .int .i64 x_Count, .int .i64 x_Hash]) ∧ Ex w w' := by
  have HS := St.start w
  go_enter Try.func27, Try.ntmps27
  go_wp2_with (first
        | ((with_reducible (show wpList _ _ _ (Oper.mk (some 1) (Op.box _ _) _ _ _ _ :: _) _ _)); refine wpList_box_st (o := ⟨some 1, .box _ _, _, _, _, _⟩) rfl _ _ rfl (v := .agg (List.toArray _)) rfl HS ?_; clear HS; intro w1 b1 hb1 HS; simp only [Value.cells] at HS)
        | ((with_reducible (show wpList _ _ _ (Oper.mk (some 1) (Op.box _ _) _ _ _ _ :: _) _ _)); refine wpList_box_st (o := ⟨some 1, .box _ _, _, _, _, _⟩) rfl _ _ rfl (v := .agg _) rfl HS ?_; clear HS; intro w1 b1 hb1 HS; simp only [Value.cells] at HS)
        | ((with_reducible (show wpList _ _ _ (Oper.mk (some 2) (Op.alloc _) _ _ _ _ :: _) _ _)); refine wpList_alloc_st (o := ⟨some 2, .alloc _, _, _, _, _⟩) rfl _ rfl zc_impl_Completion HS ?_; clear HS; intro w2 b2 hb2 HS)
        | ((with_reducible (show wpList _ _ _ (Oper.mk (some 3) (Op.alloc _) _ _ _ _ :: _) _ _)); refine wpList_alloc_st (o := ⟨some 3, .alloc _, _, _, _, _⟩) rfl _ rfl zc_impl_Completion HS ?_; clear HS; intro w3 b3 hb3 HS)
        | ((with_reducible (show wpList _ _ _ (Oper.mk (some 5) (Op.load _ _) _ _ _ _ :: _) _ _)); refine wpList_loadS_st (o := ⟨some 5, .load _ _, _, _, _, _⟩) rfl _ _ rfl rfl HS tk sc_int rfx ?_)
        | ((with_reducible (show wpList _ _ _ (Oper.mk none (Op.store _ (.tmp 6) _) _ _ _ _ :: _) _ _)); refine wpList_store_st (o := ⟨none, .store _ (.tmp 6) _, _, _, _, _⟩) rfl _ _ _ rfl rfl (v := .int .i64 _) rfl HS tk sz_int vcs rfx rfx (by simp) ?_ rfl; clear HS; intro w2_3 hz2_3 HS; simp only [nicL, Value.cells, List.append_nil] at HS)
        | ((with_reducible (show wpList _ _ _ (Oper.mk (some 8) (Op.load _ _) _ _ _ _ :: _) _ _)); refine wpList_loadS_st (o := ⟨some 8, .load _ _, _, _, _, _⟩) rfl _ _ rfl rfl HS tk sc_int rfx ?_)
        | ((with_reducible (show wpList _ _ _ (Oper.mk none (Op.store _ (.tmp 9) _) _ _ _ _ :: _) _ _)); refine wpList_store_st (o := ⟨none, .store _ (.tmp 9) _, _, _, _, _⟩) rfl _ _ _ rfl rfl (v := .int .i64 _) rfl HS tk sz_int vcs rfx rfx (by simp) ?_ rfl; clear HS; intro w3_3 hz3_3 HS; simp only [nicL, Value.cells, List.append_nil] at HS)
        | ((with_reducible (show wpList _ _ _ (Oper.mk (some 11) (Op.load _ _) _ _ _ _ :: _) _ _)); refine wpList_loadS_st (o := ⟨some 11, .load _ _, _, _, _, _⟩) rfl _ _ rfl rfl HS tk sc_int rfx ?_)
        | ((with_reducible (show wpList _ _ _ (Oper.mk none (Op.store _ (.tmp 12) _) _ _ _ _ :: _) _ _)); refine wpList_store_st (o := ⟨none, .store _ (.tmp 12) _, _, _, _, _⟩) rfl _ _ _ rfl rfl (v := .int .i64 _) rfl HS tk sz_int vcs rfx rfx (by simp) ?_ rfl; clear HS; intro w4_3 hz4_3 HS; simp only [nicL, Value.cells, List.append_nil] at HS)
        | ((with_reducible (show wpList _ _ _ (Oper.mk (some 14) (Op.load _ _) _ _ _ _ :: _) _ _)); refine wpList_loadS_st (o := ⟨some 14, .load _ _, _, _, _, _⟩) rfl _ _ rfl rfl HS tk sc_int rfx ?_)
        | ((with_reducible (show wpList _ _ _ (Oper.mk none (Op.store _ (.tmp 15) _) _ _ _ _ :: _) _ _)); refine wpList_store_st (o := ⟨none, .store _ (.tmp 15) _, _, _, _, _⟩) rfl _ _ _ rfl rfl (v := .int .i64 _) rfl HS tk sz_int vcs rfx rfx (by simp) ?_ rfl; clear HS; intro w5_3 hz5_3 HS; simp only [nicL, Value.cells, List.append_nil] at HS)
        | ((with_reducible (show wpList _ _ _ (Oper.mk (some 17) (Op.load _ _) _ _ _ _ :: _) _ _)); refine wpList_loadS_st (o := ⟨some 17, .load _ _, _, _, _, _⟩) rfl _ _ rfl rfl HS tk sc_int rfx ?_)
        | ((with_reducible (show wpList _ _ _ (Oper.mk none (Op.store _ (.tmp 18) _) _ _ _ _ :: _) _ _)); refine wpList_store_st (o := ⟨none, .store _ (.tmp 18) _, _, _, _, _⟩) rfl _ _ _ rfl rfl (v := .int .i64 _) rfl HS tk sz_int vcs rfx rfx (by simp) ?_ rfl; clear HS; intro w6_3 hz6_3 HS; simp only [nicL, Value.cells, List.append_nil] at HS)
        | ((with_reducible (show wpList _ _ _ (Oper.mk (some 19) (Op.load _ _) _ _ _ _ :: _) _ _)); refine wpList_loadA_st (o := ⟨some 19, .load _ _, _, _, _, _⟩) rfl _ _ rfl rfl HS tk ag_impl_Completion lit rfl ?_)
        | ((with_reducible (show wpList _ _ _ (Oper.mk none (Op.store _ (.tmp 2) _) _ _ _ _ :: _) _ _)); refine wpList_store_st (o := ⟨none, .store _ (.tmp 2) _, _, _, _, _⟩) rfl _ _ _ rfl rfl (v := .agg (List.toArray _)) rfl HS tk sz_impl_Completion vcs rfx rfx (by simp) ?_ rfl; clear HS; intro w7_1 hz7_1 HS; simp only [nicL, Value.cells, List.append_nil] at HS)
        | ((with_reducible (show wpList _ _ _ (Oper.mk none (Op.store _ (.tmp 2) _) _ _ _ _ :: _) _ _)); refine wpList_store_st (o := ⟨none, .store _ (.tmp 2) _, _, _, _, _⟩) rfl _ _ _ rfl rfl (v := .agg _) rfl HS tk sz_impl_Completion vcs rfx rfx (by simp) ?_ rfl; clear HS; intro w7_1 hz7_1 HS; simp only [nicL, Value.cells, List.append_nil] at HS))
  refine bodyPost_retc rfx rfx HS tk ag_impl_Completion rfx rfx ?_
  exact ⟨rfl, HS.ex⟩

set_option maxRecDepth 100000 in
set_option maxHeartbeats 4000000 in
theorem eqCompletion_r (x_Cookie : Int) (x_Len : Int) (x_Size : Int) (x_Count : Int) (x_Hash : Int) (w : World) :
    Calls Try.prog 22 #[.agg #[.int .i64 x_Cookie, .int .i64 x_Len, .int .i64 x_Size, .int .i64 x_Count, .int .i64 x_Hash], .agg #[.int .i64 x_Cookie, .int .i64 x_Len, .int .i64 x_Size, .int .i64 x_Count, .int .i64 x_Hash]] w fun e w' => e = .returned (.bool true) ∧ Ex w w' := by
  have e0 : (x_Cookie != x_Cookie) = false := by simp
  have e1 : (x_Len != x_Len) = false := by simp
  have e2 : (x_Size != x_Size) = false := by simp
  have e3 : (x_Count != x_Count) = false := by simp
  have e4 : (x_Hash != x_Hash) = false := by simp
  have HS := St.start w
  go_enter Try.func22, Try.ntmps22
  go_wp2_with (first
        | ((with_reducible (show wpList _ _ _ (Oper.mk (some 2) (Op.box _ _) _ _ _ _ :: _) _ _)); refine wpList_box_st (o := ⟨some 2, .box _ _, _, _, _, _⟩) rfl _ _ rfl (v := .agg (List.toArray _)) rfl HS ?_; clear HS; intro w2 b2 hb2 HS; simp only [Value.cells] at HS)
        | ((with_reducible (show wpList _ _ _ (Oper.mk (some 2) (Op.box _ _) _ _ _ _ :: _) _ _)); refine wpList_box_st (o := ⟨some 2, .box _ _, _, _, _, _⟩) rfl _ _ rfl (v := .agg _) rfl HS ?_; clear HS; intro w2 b2 hb2 HS; simp only [Value.cells] at HS)
        | ((with_reducible (show wpList _ _ _ (Oper.mk (some 3) (Op.box _ _) _ _ _ _ :: _) _ _)); refine wpList_box_st (o := ⟨some 3, .box _ _, _, _, _, _⟩) rfl _ _ rfl (v := .agg (List.toArray _)) rfl HS ?_; clear HS; intro w3 b3 hb3 HS; simp only [Value.cells] at HS)
        | ((with_reducible (show wpList _ _ _ (Oper.mk (some 3) (Op.box _ _) _ _ _ _ :: _) _ _)); refine wpList_box_st (o := ⟨some 3, .box _ _, _, _, _, _⟩) rfl _ _ rfl (v := .agg _) rfl HS ?_; clear HS; intro w3 b3 hb3 HS; simp only [Value.cells] at HS)
        | ((with_reducible (show wpList _ _ _ (Oper.mk (some 6) (Op.load _ _) _ _ _ _ :: _) _ _)); refine wpList_loadS_st (o := ⟨some 6, .load _ _, _, _, _, _⟩) rfl _ _ rfl rfl HS tk sc_int rfx ?_)
        | ((with_reducible (show wpList _ _ _ (Oper.mk (some 8) (Op.load _ _) _ _ _ _ :: _) _ _)); refine wpList_loadS_st (o := ⟨some 8, .load _ _, _, _, _, _⟩) rfl _ _ rfl rfl HS tk sc_int rfx ?_)
        | ((with_reducible (show wpList _ _ _ (Oper.mk (some 11) (Op.load _ _) _ _ _ _ :: _) _ _)); refine wpList_loadS_st (o := ⟨some 11, .load _ _, _, _, _, _⟩) rfl _ _ rfl rfl HS tk sc_int rfx ?_)
        | ((with_reducible (show wpList _ _ _ (Oper.mk (some 13) (Op.load _ _) _ _ _ _ :: _) _ _)); refine wpList_loadS_st (o := ⟨some 13, .load _ _, _, _, _, _⟩) rfl _ _ rfl rfl HS tk sc_int rfx ?_)
        | ((with_reducible (show wpList _ _ _ (Oper.mk (some 16) (Op.load _ _) _ _ _ _ :: _) _ _)); refine wpList_loadS_st (o := ⟨some 16, .load _ _, _, _, _, _⟩) rfl _ _ rfl rfl HS tk sc_int rfx ?_)
        | ((with_reducible (show wpList _ _ _ (Oper.mk (some 18) (Op.load _ _) _ _ _ _ :: _) _ _)); refine wpList_loadS_st (o := ⟨some 18, .load _ _, _, _, _, _⟩) rfl _ _ rfl rfl HS tk sc_int rfx ?_)
        | ((with_reducible (show wpList _ _ _ (Oper.mk (some 21) (Op.load _ _) _ _ _ _ :: _) _ _)); refine wpList_loadS_st (o := ⟨some 21, .load _ _, _, _, _, _⟩) rfl _ _ rfl rfl HS tk sc_int rfx ?_)
        | ((with_reducible (show wpList _ _ _ (Oper.mk (some 23) (Op.load _ _) _ _ _ _ :: _) _ _)); refine wpList_loadS_st (o := ⟨some 23, .load _ _, _, _, _, _⟩) rfl _ _ rfl rfl HS tk sc_int rfx ?_)
        | ((with_reducible (show wpList _ _ _ (Oper.mk (some 26) (Op.load _ _) _ _ _ _ :: _) _ _)); refine wpList_loadS_st (o := ⟨some 26, .load _ _, _, _, _, _⟩) rfl _ _ rfl rfl HS tk sc_int rfx ?_)
        | ((with_reducible (show wpList _ _ _ (Oper.mk (some 28) (Op.load _ _) _ _ _ _ :: _) _ _)); refine wpList_loadS_st (o := ⟨some 28, .load _ _, _, _, _, _⟩) rfl _ _ rfl rfl HS tk sc_int rfx ?_))
  go_ret
  exact ⟨rfl, HS.ex⟩

set_option maxRecDepth 100000 in
set_option maxHeartbeats 4000000 in
theorem toSegment_r (x_Kind : Int) (x_SrcPort : Int) (x_DstPort : Int) (x_Seq : Int) (x_Ack : Int) (x_Flags : Int) (x_Window : Int) (x_Body : ByteArray) (w : World) :
    Calls Try.prog 156 #[.agg #[.int .i64 x_Kind, .int .i64 x_SrcPort, .int .i64 x_DstPort, .int .i64 x_Seq, .int .i64 x_Ack, .int .i64 x_Flags, .int .i64 x_Window, .string x_Body]] w fun e w' => e = .returned (.agg #[.int .i64 x_Kind, .int .i64 x_SrcPort, .int .i64 x_DstPort, .int .i64 x_Seq, .int .i64 x_Ack, .int .i64 x_Flags, .int .i64 x_Window, .string x_Body]) ∧ Ex w w' := by
  have HS := St.start w
  go_enter Try.func156, Try.ntmps156
  go_wp2_with (first
        | ((with_reducible (show wpList _ _ _ (Oper.mk (some 1) (Op.box _ _) _ _ _ _ :: _) _ _)); refine wpList_box_st (o := ⟨some 1, .box _ _, _, _, _, _⟩) rfl _ _ rfl (v := .agg (List.toArray _)) rfl HS ?_; clear HS; intro w1 b1 hb1 HS; simp only [Value.cells] at HS)
        | ((with_reducible (show wpList _ _ _ (Oper.mk (some 1) (Op.box _ _) _ _ _ _ :: _) _ _)); refine wpList_box_st (o := ⟨some 1, .box _ _, _, _, _, _⟩) rfl _ _ rfl (v := .agg _) rfl HS ?_; clear HS; intro w1 b1 hb1 HS; simp only [Value.cells] at HS)
        | ((with_reducible (show wpList _ _ _ (Oper.mk (some 2) (Op.alloc _) _ _ _ _ :: _) _ _)); refine wpList_alloc_st (o := ⟨some 2, .alloc _, _, _, _, _⟩) rfl _ rfl zc_impl_Segment HS ?_; clear HS; intro w2 b2 hb2 HS)
        | ((with_reducible (show wpList _ _ _ (Oper.mk (some 3) (Op.alloc _) _ _ _ _ :: _) _ _)); refine wpList_alloc_st (o := ⟨some 3, .alloc _, _, _, _, _⟩) rfl _ rfl zc_impl_Segment HS ?_; clear HS; intro w3 b3 hb3 HS)
        | ((with_reducible (show wpList _ _ _ (Oper.mk (some 5) (Op.load _ _) _ _ _ _ :: _) _ _)); refine wpList_loadS_st (o := ⟨some 5, .load _ _, _, _, _, _⟩) rfl _ _ rfl rfl HS tk sc_int rfx ?_)
        | ((with_reducible (show wpList _ _ _ (Oper.mk none (Op.store _ (.tmp 6) _) _ _ _ _ :: _) _ _)); refine wpList_store_st (o := ⟨none, .store _ (.tmp 6) _, _, _, _, _⟩) rfl _ _ _ rfl rfl (v := .int .i64 _) rfl HS tk sz_int vcs rfx rfx (by simp) ?_ rfl; clear HS; intro w2_3 hz2_3 HS; simp only [nicL, Value.cells, List.append_nil] at HS)
        | ((with_reducible (show wpList _ _ _ (Oper.mk (some 8) (Op.load _ _) _ _ _ _ :: _) _ _)); refine wpList_loadS_st (o := ⟨some 8, .load _ _, _, _, _, _⟩) rfl _ _ rfl rfl HS tk sc_int rfx ?_)
        | ((with_reducible (show wpList _ _ _ (Oper.mk none (Op.store _ (.tmp 9) _) _ _ _ _ :: _) _ _)); refine wpList_store_st (o := ⟨none, .store _ (.tmp 9) _, _, _, _, _⟩) rfl _ _ _ rfl rfl (v := .int .i64 _) rfl HS tk sz_int vcs rfx rfx (by simp) ?_ rfl; clear HS; intro w3_3 hz3_3 HS; simp only [nicL, Value.cells, List.append_nil] at HS)
        | ((with_reducible (show wpList _ _ _ (Oper.mk (some 11) (Op.load _ _) _ _ _ _ :: _) _ _)); refine wpList_loadS_st (o := ⟨some 11, .load _ _, _, _, _, _⟩) rfl _ _ rfl rfl HS tk sc_int rfx ?_)
        | ((with_reducible (show wpList _ _ _ (Oper.mk none (Op.store _ (.tmp 12) _) _ _ _ _ :: _) _ _)); refine wpList_store_st (o := ⟨none, .store _ (.tmp 12) _, _, _, _, _⟩) rfl _ _ _ rfl rfl (v := .int .i64 _) rfl HS tk sz_int vcs rfx rfx (by simp) ?_ rfl; clear HS; intro w4_3 hz4_3 HS; simp only [nicL, Value.cells, List.append_nil] at HS)
        | ((with_reducible (show wpList _ _ _ (Oper.mk (some 14) (Op.load _ _) _ _ _ _ :: _) _ _)); refine wpList_loadS_st (o := ⟨some 14, .load _ _, _, _, _, _⟩) rfl _ _ rfl rfl HS tk sc_int rfx ?_)
        | ((with_reducible (show wpList _ _ _ (Oper.mk none (Op.store _ (.tmp 15) _) _ _ _ _ :: _) _ _)); refine wpList_store_st (o := ⟨none, .store _ (.tmp 15) _, _, _, _, _⟩) rfl _ _ _ rfl rfl (v := .int .i64 _) rfl HS tk sz_int vcs rfx rfx (by simp) ?_ rfl; clear HS; intro w5_3 hz5_3 HS; simp only [nicL, Value.cells, List.append_nil] at HS)
        | ((with_reducible (show wpList _ _ _ (Oper.mk (some 17) (Op.load _ _) _ _ _ _ :: _) _ _)); refine wpList_loadS_st (o := ⟨some 17, .load _ _, _, _, _, _⟩) rfl _ _ rfl rfl HS tk sc_int rfx ?_)
        | ((with_reducible (show wpList _ _ _ (Oper.mk none (Op.store _ (.tmp 18) _) _ _ _ _ :: _) _ _)); refine wpList_store_st (o := ⟨none, .store _ (.tmp 18) _, _, _, _, _⟩) rfl _ _ _ rfl rfl (v := .int .i64 _) rfl HS tk sz_int vcs rfx rfx (by simp) ?_ rfl; clear HS; intro w6_3 hz6_3 HS; simp only [nicL, Value.cells, List.append_nil] at HS)
        | ((with_reducible (show wpList _ _ _ (Oper.mk (some 20) (Op.load _ _) _ _ _ _ :: _) _ _)); refine wpList_loadS_st (o := ⟨some 20, .load _ _, _, _, _, _⟩) rfl _ _ rfl rfl HS tk sc_int rfx ?_)
        | ((with_reducible (show wpList _ _ _ (Oper.mk none (Op.store _ (.tmp 21) _) _ _ _ _ :: _) _ _)); refine wpList_store_st (o := ⟨none, .store _ (.tmp 21) _, _, _, _, _⟩) rfl _ _ _ rfl rfl (v := .int .i64 _) rfl HS tk sz_int vcs rfx rfx (by simp) ?_ rfl; clear HS; intro w7_3 hz7_3 HS; simp only [nicL, Value.cells, List.append_nil] at HS)
        | ((with_reducible (show wpList _ _ _ (Oper.mk (some 23) (Op.load _ _) _ _ _ _ :: _) _ _)); refine wpList_loadS_st (o := ⟨some 23, .load _ _, _, _, _, _⟩) rfl _ _ rfl rfl HS tk sc_int rfx ?_)
        | ((with_reducible (show wpList _ _ _ (Oper.mk none (Op.store _ (.tmp 24) _) _ _ _ _ :: _) _ _)); refine wpList_store_st (o := ⟨none, .store _ (.tmp 24) _, _, _, _, _⟩) rfl _ _ _ rfl rfl (v := .int .i64 _) rfl HS tk sz_int vcs rfx rfx (by simp) ?_ rfl; clear HS; intro w8_3 hz8_3 HS; simp only [nicL, Value.cells, List.append_nil] at HS)
        | ((with_reducible (show wpList _ _ _ (Oper.mk (some 26) (Op.load _ _) _ _ _ _ :: _) _ _)); refine wpList_loadS_st (o := ⟨some 26, .load _ _, _, _, _, _⟩) rfl _ _ rfl rfl HS tk sc_string rfx ?_)
        | ((with_reducible (show wpList _ _ _ (Oper.mk none (Op.store _ (.tmp 27) _) _ _ _ _ :: _) _ _)); refine wpList_store_st (o := ⟨none, .store _ (.tmp 27) _, _, _, _, _⟩) rfl _ _ _ rfl rfl (v := .string _) rfl HS tk sz_string vcs rfx rfx (by simp) ?_ rfl; clear HS; intro w9_3 hz9_3 HS; simp only [nicL, Value.cells, List.append_nil] at HS)
        | ((with_reducible (show wpList _ _ _ (Oper.mk (some 28) (Op.load _ _) _ _ _ _ :: _) _ _)); refine wpList_loadA_st (o := ⟨some 28, .load _ _, _, _, _, _⟩) rfl _ _ rfl rfl HS tk ag_impl_Segment lit rfl ?_)
        | ((with_reducible (show wpList _ _ _ (Oper.mk none (Op.store _ (.tmp 2) _) _ _ _ _ :: _) _ _)); refine wpList_store_st (o := ⟨none, .store _ (.tmp 2) _, _, _, _, _⟩) rfl _ _ _ rfl rfl (v := .agg (List.toArray _)) rfl HS tk sz_impl_Segment vcs rfx rfx (by simp) ?_ rfl; clear HS; intro w10_1 hz10_1 HS; simp only [nicL, Value.cells, List.append_nil] at HS)
        | ((with_reducible (show wpList _ _ _ (Oper.mk none (Op.store _ (.tmp 2) _) _ _ _ _ :: _) _ _)); refine wpList_store_st (o := ⟨none, .store _ (.tmp 2) _, _, _, _, _⟩) rfl _ _ _ rfl rfl (v := .agg _) rfl HS tk sz_impl_Segment vcs rfx rfx (by simp) ?_ rfl; clear HS; intro w10_1 hz10_1 HS; simp only [nicL, Value.cells, List.append_nil] at HS))
  refine bodyPost_retc rfx rfx HS tk ag_impl_Segment rfx rfx ?_
  exact ⟨rfl, HS.ex⟩

set_option maxRecDepth 100000 in
set_option maxHeartbeats 4000000 in
theorem szSegment_le_r (x_Kind : Int) (x_SrcPort : Int) (x_DstPort : Int) (x_Seq : Int) (x_Ack : Int) (x_Flags : Int) (x_Window : Int) (x_Body : ByteArray) (l : Int) (w : World) (hl : l ≤ 1048576) (hs : (x_Body.size : Int) ≤ l) (hx_Body : x_Body.size ≤ maxLen) :
    Calls Try.prog 154 #[.agg #[.int .i64 x_Kind, .int .i64 x_SrcPort, .int .i64 x_DstPort, .int .i64 x_Seq, .int .i64 x_Ack, .int .i64 x_Flags, .int .i64 x_Window, .string x_Body], .int .i64 l] w fun e w' => e = .returned (.int .i64 (l - (x_Body.size : Int))) ∧ Ex w w' := by
  have h9 := hx_Body
  unfold maxLen at h9
  have HS := St.start w
  go_enter Try.func154, Try.ntmps154
  go_wp2_with (first
        | ((with_reducible (show wpList _ _ _ (Oper.mk (some 2) (Op.box _ _) _ _ _ _ :: _) _ _)); refine wpList_box_st (o := ⟨some 2, .box _ _, _, _, _, _⟩) rfl _ _ rfl (v := .agg (List.toArray _)) rfl HS ?_; clear HS; intro w2 b2 hb2 HS; simp only [Value.cells] at HS)
        | ((with_reducible (show wpList _ _ _ (Oper.mk (some 2) (Op.box _ _) _ _ _ _ :: _) _ _)); refine wpList_box_st (o := ⟨some 2, .box _ _, _, _, _, _⟩) rfl _ _ rfl (v := .agg _) rfl HS ?_; clear HS; intro w2 b2 hb2 HS; simp only [Value.cells] at HS)
        | ((with_reducible (show wpList _ _ _ (Oper.mk (some 7) (Op.load _ _) _ _ _ _ :: _) _ _)); refine wpList_loadS_st (o := ⟨some 7, .load _ _, _, _, _, _⟩) rfl _ _ rfl rfl HS tk sc_string rfx ?_))
  go_ret
  exact ⟨rfl, HS.ex⟩

set_option maxRecDepth 100000 in
set_option maxHeartbeats 4000000 in
theorem szSegment_gt_r (x_Kind : Int) (x_SrcPort : Int) (x_DstPort : Int) (x_Seq : Int) (x_Ack : Int) (x_Flags : Int) (x_Window : Int) (x_Body : ByteArray) (l : Int) (w : World) (hl : l ≤ 1048576) (h0 : 0 ≤ l) (hs : l < (x_Body.size : Int)) (hx_Body : x_Body.size ≤ maxLen) :
    Calls Try.prog 154 #[.agg #[.int .i64 x_Kind, .int .i64 x_SrcPort, .int .i64 x_DstPort, .int .i64 x_Seq, .int .i64 x_Ack, .int .i64 x_Flags, .int .i64 x_Window, .string x_Body], .int .i64 l] w fun e w' => e = .returned (.int .i64 (-1)) ∧ Ex w w' := by
  have h9 := hx_Body
  unfold maxLen at h9
  have HS := St.start w
  go_enter Try.func154, Try.ntmps154
  go_wp2_with (first
        | ((with_reducible (show wpList _ _ _ (Oper.mk (some 2) (Op.box _ _) _ _ _ _ :: _) _ _)); refine wpList_box_st (o := ⟨some 2, .box _ _, _, _, _, _⟩) rfl _ _ rfl (v := .agg (List.toArray _)) rfl HS ?_; clear HS; intro w2 b2 hb2 HS; simp only [Value.cells] at HS)
        | ((with_reducible (show wpList _ _ _ (Oper.mk (some 2) (Op.box _ _) _ _ _ _ :: _) _ _)); refine wpList_box_st (o := ⟨some 2, .box _ _, _, _, _, _⟩) rfl _ _ rfl (v := .agg _) rfl HS ?_; clear HS; intro w2 b2 hb2 HS; simp only [Value.cells] at HS)
        | ((with_reducible (show wpList _ _ _ (Oper.mk (some 7) (Op.load _ _) _ _ _ _ :: _) _ _)); refine wpList_loadS_st (o := ⟨some 7, .load _ _, _, _, _, _⟩) rfl _ _ rfl rfl HS tk sc_string rfx ?_))
  go_ret
  exact ⟨rfl, HS.ex⟩

set_option maxRecDepth 100000 in
set_option maxHeartbeats 4000000 in
theorem toPacket_r (x_DstMac : Int) (x_SrcMac : Int) (x_Vlan : Int) (x_Tos : Int) (x_Id : Int) (x_Ttl : Int) (x_SrcIp : Int) (x_DstIp : Int) (x_Seg_Kind : Int) (x_Seg_SrcPort : Int) (x_Seg_DstPort : Int) (x_Seg_Seq : Int) (x_Seg_Ack : Int) (x_Seg_Flags : Int) (x_Seg_Window : Int) (x_Seg_Body : ByteArray) (w : World) :
    Calls Try.prog 134 #[.agg #[.int .i64 x_DstMac, .int .i64 x_SrcMac, .int .i64 x_Vlan, .int .i64 x_Tos, .int .i64 x_Id, .int .i64 x_Ttl, .int .i64 x_SrcIp, .int .i64 x_DstIp, .int .i64 x_Seg_Kind, .int .i64 x_Seg_SrcPort, .int .i64 x_Seg_DstPort, .int .i64 x_Seg_Seq, .int .i64 x_Seg_Ack, .int .i64 x_Seg_Flags, .int .i64 x_Seg_Window, .string x_Seg_Body]] w fun e w' => e = .returned (.agg #[.int .i64 x_DstMac, .int .i64 x_SrcMac, .int .i64 x_Vlan, .int .i64 x_Tos, .int .i64 x_Id, .int .i64 x_Ttl, .int .i64 x_SrcIp, .int .i64 x_DstIp, .int .i64 x_Seg_Kind, .int .i64 x_Seg_SrcPort, .int .i64 x_Seg_DstPort, .int .i64 x_Seg_Seq, .int .i64 x_Seg_Ack, .int .i64 x_Seg_Flags, .int .i64 x_Seg_Window, .string x_Seg_Body]) ∧ Ex w w' := by
  have HS := St.start w
  go_enter Try.func134, Try.ntmps134
  go_wp2_with (first
        | (go_at_call 156; (with_reducible refine (toSegment_r x_Seg_Kind x_Seg_SrcPort x_Seg_DstPort x_Seg_Seq x_Seg_Ack x_Seg_Flags x_Seg_Window x_Seg_Body _).mono ?_); rintro e w' ⟨rfl, hx⟩; replace HS := HS.grow hx; clear hx)
        | ((with_reducible (show wpList _ _ _ (Oper.mk (some 1) (Op.box _ _) _ _ _ _ :: _) _ _)); refine wpList_box_st (o := ⟨some 1, .box _ _, _, _, _, _⟩) rfl _ _ rfl (v := .agg (List.toArray _)) rfl HS ?_; clear HS; intro w1 b1 hb1 HS; simp only [Value.cells] at HS)
        | ((with_reducible (show wpList _ _ _ (Oper.mk (some 1) (Op.box _ _) _ _ _ _ :: _) _ _)); refine wpList_box_st (o := ⟨some 1, .box _ _, _, _, _, _⟩) rfl _ _ rfl (v := .agg _) rfl HS ?_; clear HS; intro w1 b1 hb1 HS; simp only [Value.cells] at HS)
        | ((with_reducible (show wpList _ _ _ (Oper.mk (some 2) (Op.alloc _) _ _ _ _ :: _) _ _)); refine wpList_alloc_st (o := ⟨some 2, .alloc _, _, _, _, _⟩) rfl _ rfl zc_impl_Packet HS ?_; clear HS; intro w2 b2 hb2 HS)
        | ((with_reducible (show wpList _ _ _ (Oper.mk (some 3) (Op.alloc _) _ _ _ _ :: _) _ _)); refine wpList_alloc_st (o := ⟨some 3, .alloc _, _, _, _, _⟩) rfl _ rfl zc_impl_Packet HS ?_; clear HS; intro w3 b3 hb3 HS)
        | ((with_reducible (show wpList _ _ _ (Oper.mk (some 5) (Op.load _ _) _ _ _ _ :: _) _ _)); refine wpList_loadS_st (o := ⟨some 5, .load _ _, _, _, _, _⟩) rfl _ _ rfl rfl HS tk sc_int rfx ?_)
        | ((with_reducible (show wpList _ _ _ (Oper.mk none (Op.store _ (.tmp 6) _) _ _ _ _ :: _) _ _)); refine wpList_store_st (o := ⟨none, .store _ (.tmp 6) _, _, _, _, _⟩) rfl _ _ _ rfl rfl (v := .int .i64 _) rfl HS tk sz_int vcs rfx rfx (by simp) ?_ rfl; clear HS; intro w2_3 hz2_3 HS; simp only [nicL, Value.cells, List.append_nil] at HS)
        | ((with_reducible (show wpList _ _ _ (Oper.mk (some 8) (Op.load _ _) _ _ _ _ :: _) _ _)); refine wpList_loadS_st (o := ⟨some 8, .load _ _, _, _, _, _⟩) rfl _ _ rfl rfl HS tk sc_int rfx ?_)
        | ((with_reducible (show wpList _ _ _ (Oper.mk none (Op.store _ (.tmp 9) _) _ _ _ _ :: _) _ _)); refine wpList_store_st (o := ⟨none, .store _ (.tmp 9) _, _, _, _, _⟩) rfl _ _ _ rfl rfl (v := .int .i64 _) rfl HS tk sz_int vcs rfx rfx (by simp) ?_ rfl; clear HS; intro w3_3 hz3_3 HS; simp only [nicL, Value.cells, List.append_nil] at HS)
        | ((with_reducible (show wpList _ _ _ (Oper.mk (some 11) (Op.load _ _) _ _ _ _ :: _) _ _)); refine wpList_loadS_st (o := ⟨some 11, .load _ _, _, _, _, _⟩) rfl _ _ rfl rfl HS tk sc_int rfx ?_)
        | ((with_reducible (show wpList _ _ _ (Oper.mk none (Op.store _ (.tmp 12) _) _ _ _ _ :: _) _ _)); refine wpList_store_st (o := ⟨none, .store _ (.tmp 12) _, _, _, _, _⟩) rfl _ _ _ rfl rfl (v := .int .i64 _) rfl HS tk sz_int vcs rfx rfx (by simp) ?_ rfl; clear HS; intro w4_3 hz4_3 HS; simp only [nicL, Value.cells, List.append_nil] at HS)
        | ((with_reducible (show wpList _ _ _ (Oper.mk (some 14) (Op.load _ _) _ _ _ _ :: _) _ _)); refine wpList_loadS_st (o := ⟨some 14, .load _ _, _, _, _, _⟩) rfl _ _ rfl rfl HS tk sc_int rfx ?_)
        | ((with_reducible (show wpList _ _ _ (Oper.mk none (Op.store _ (.tmp 15) _) _ _ _ _ :: _) _ _)); refine wpList_store_st (o := ⟨none, .store _ (.tmp 15) _, _, _, _, _⟩) rfl _ _ _ rfl rfl (v := .int .i64 _) rfl HS tk sz_int vcs rfx rfx (by simp) ?_ rfl; clear HS; intro w5_3 hz5_3 HS; simp only [nicL, Value.cells, List.append_nil] at HS)
        | ((with_reducible (show wpList _ _ _ (Oper.mk (some 17) (Op.load _ _) _ _ _ _ :: _) _ _)); refine wpList_loadS_st (o := ⟨some 17, .load _ _, _, _, _, _⟩) rfl _ _ rfl rfl HS tk sc_int rfx ?_)
        | ((with_reducible (show wpList _ _ _ (Oper.mk none (Op.store _ (.tmp 18) _) _ _ _ _ :: _) _ _)); refine wpList_store_st (o := ⟨none, .store _ (.tmp 18) _, _, _, _, _⟩) rfl _ _ _ rfl rfl (v := .int .i64 _) rfl HS tk sz_int vcs rfx rfx (by simp) ?_ rfl; clear HS; intro w6_3 hz6_3 HS; simp only [nicL, Value.cells, List.append_nil] at HS)
        | ((with_reducible (show wpList _ _ _ (Oper.mk (some 20) (Op.load _ _) _ _ _ _ :: _) _ _)); refine wpList_loadS_st (o := ⟨some 20, .load _ _, _, _, _, _⟩) rfl _ _ rfl rfl HS tk sc_int rfx ?_)
        | ((with_reducible (show wpList _ _ _ (Oper.mk none (Op.store _ (.tmp 21) _) _ _ _ _ :: _) _ _)); refine wpList_store_st (o := ⟨none, .store _ (.tmp 21) _, _, _, _, _⟩) rfl _ _ _ rfl rfl (v := .int .i64 _) rfl HS tk sz_int vcs rfx rfx (by simp) ?_ rfl; clear HS; intro w7_3 hz7_3 HS; simp only [nicL, Value.cells, List.append_nil] at HS)
        | ((with_reducible (show wpList _ _ _ (Oper.mk (some 23) (Op.load _ _) _ _ _ _ :: _) _ _)); refine wpList_loadS_st (o := ⟨some 23, .load _ _, _, _, _, _⟩) rfl _ _ rfl rfl HS tk sc_int rfx ?_)
        | ((with_reducible (show wpList _ _ _ (Oper.mk none (Op.store _ (.tmp 24) _) _ _ _ _ :: _) _ _)); refine wpList_store_st (o := ⟨none, .store _ (.tmp 24) _, _, _, _, _⟩) rfl _ _ _ rfl rfl (v := .int .i64 _) rfl HS tk sz_int vcs rfx rfx (by simp) ?_ rfl; clear HS; intro w8_3 hz8_3 HS; simp only [nicL, Value.cells, List.append_nil] at HS)
        | ((with_reducible (show wpList _ _ _ (Oper.mk (some 26) (Op.load _ _) _ _ _ _ :: _) _ _)); refine wpList_loadS_st (o := ⟨some 26, .load _ _, _, _, _, _⟩) rfl _ _ rfl rfl HS tk sc_int rfx ?_)
        | ((with_reducible (show wpList _ _ _ (Oper.mk none (Op.store _ (.tmp 27) _) _ _ _ _ :: _) _ _)); refine wpList_store_st (o := ⟨none, .store _ (.tmp 27) _, _, _, _, _⟩) rfl _ _ _ rfl rfl (v := .int .i64 _) rfl HS tk sz_int vcs rfx rfx (by simp) ?_ rfl; clear HS; intro w9_3 hz9_3 HS; simp only [nicL, Value.cells, List.append_nil] at HS)
        | ((with_reducible (show wpList _ _ _ (Oper.mk (some 29) (Op.load _ _) _ _ _ _ :: _) _ _)); refine wpList_loadA_st (o := ⟨some 29, .load _ _, _, _, _, _⟩) rfl _ _ rfl rfl HS tk ag_laws_Segment lit rfl ?_)
        | ((with_reducible (show wpList _ _ _ (Oper.mk none (Op.store _ (.tmp 31) _) _ _ _ _ :: _) _ _)); refine wpList_store_st (o := ⟨none, .store _ (.tmp 31) _, _, _, _, _⟩) rfl _ _ _ rfl rfl (v := .agg (List.toArray _)) rfl HS tk sz_impl_Segment vcs rfx rfx (by simp) ?_ rfl; clear HS; intro w10_4 hz10_4 HS; simp only [nicL, Value.cells, List.append_nil] at HS)
        | ((with_reducible (show wpList _ _ _ (Oper.mk none (Op.store _ (.tmp 31) _) _ _ _ _ :: _) _ _)); refine wpList_store_st (o := ⟨none, .store _ (.tmp 31) _, _, _, _, _⟩) rfl _ _ _ rfl rfl (v := .agg _) rfl HS tk sz_impl_Segment vcs rfx rfx (by simp) ?_ rfl; clear HS; intro w10_4 hz10_4 HS; simp only [nicL, Value.cells, List.append_nil] at HS)
        | ((with_reducible (show wpList _ _ _ (Oper.mk (some 32) (Op.load _ _) _ _ _ _ :: _) _ _)); refine wpList_loadA_st (o := ⟨some 32, .load _ _, _, _, _, _⟩) rfl _ _ rfl rfl HS tk ag_impl_Packet lit rfl ?_)
        | ((with_reducible (show wpList _ _ _ (Oper.mk none (Op.store _ (.tmp 2) _) _ _ _ _ :: _) _ _)); refine wpList_store_st (o := ⟨none, .store _ (.tmp 2) _, _, _, _, _⟩) rfl _ _ _ rfl rfl (v := .agg (List.toArray _)) rfl HS tk sz_impl_Packet vcs rfx rfx (by simp) ?_ rfl; clear HS; intro w11_1 hz11_1 HS; simp only [nicL, Value.cells, List.append_nil] at HS)
        | ((with_reducible (show wpList _ _ _ (Oper.mk none (Op.store _ (.tmp 2) _) _ _ _ _ :: _) _ _)); refine wpList_store_st (o := ⟨none, .store _ (.tmp 2) _, _, _, _, _⟩) rfl _ _ _ rfl rfl (v := .agg _) rfl HS tk sz_impl_Packet vcs rfx rfx (by simp) ?_ rfl; clear HS; intro w11_1 hz11_1 HS; simp only [nicL, Value.cells, List.append_nil] at HS))
  refine bodyPost_retc rfx rfx HS tk ag_impl_Packet rfx rfx ?_
  exact ⟨rfl, HS.ex⟩

set_option maxRecDepth 100000 in
set_option maxHeartbeats 4000000 in
theorem szPacket_le_r (x_DstMac : Int) (x_SrcMac : Int) (x_Vlan : Int) (x_Tos : Int) (x_Id : Int) (x_Ttl : Int) (x_SrcIp : Int) (x_DstIp : Int) (x_Seg_Kind : Int) (x_Seg_SrcPort : Int) (x_Seg_DstPort : Int) (x_Seg_Seq : Int) (x_Seg_Ack : Int) (x_Seg_Flags : Int) (x_Seg_Window : Int) (x_Seg_Body : ByteArray) (l : Int) (w : World) (hl : l ≤ 1048576) (hs : (x_Seg_Body.size : Int) ≤ l) (hx_Seg_Body : x_Seg_Body.size ≤ maxLen) :
    Calls Try.prog 132 #[.agg #[.int .i64 x_DstMac, .int .i64 x_SrcMac, .int .i64 x_Vlan, .int .i64 x_Tos, .int .i64 x_Id, .int .i64 x_Ttl, .int .i64 x_SrcIp, .int .i64 x_DstIp, .int .i64 x_Seg_Kind, .int .i64 x_Seg_SrcPort, .int .i64 x_Seg_DstPort, .int .i64 x_Seg_Seq, .int .i64 x_Seg_Ack, .int .i64 x_Seg_Flags, .int .i64 x_Seg_Window, .string x_Seg_Body], .int .i64 l] w fun e w' => e = .returned (.int .i64 (l - (x_Seg_Body.size : Int))) ∧ Ex w w' := by
  have h9 := hx_Seg_Body
  unfold maxLen at h9
  have HS := St.start w
  go_enter Try.func132, Try.ntmps132
  go_wp2_with (first
        | (go_at_call 154; (with_reducible refine (szSegment_le_r x_Seg_Kind x_Seg_SrcPort x_Seg_DstPort x_Seg_Seq x_Seg_Ack x_Seg_Flags x_Seg_Window x_Seg_Body l _ hl hs hx_Seg_Body).mono ?_); rintro e w' ⟨rfl, hx⟩; replace HS := HS.grow hx; clear hx)
        | ((with_reducible (show wpList _ _ _ (Oper.mk (some 2) (Op.box _ _) _ _ _ _ :: _) _ _)); refine wpList_box_st (o := ⟨some 2, .box _ _, _, _, _, _⟩) rfl _ _ rfl (v := .agg (List.toArray _)) rfl HS ?_; clear HS; intro w2 b2 hb2 HS; simp only [Value.cells] at HS)
        | ((with_reducible (show wpList _ _ _ (Oper.mk (some 2) (Op.box _ _) _ _ _ _ :: _) _ _)); refine wpList_box_st (o := ⟨some 2, .box _ _, _, _, _, _⟩) rfl _ _ rfl (v := .agg _) rfl HS ?_; clear HS; intro w2 b2 hb2 HS; simp only [Value.cells] at HS)
        | ((with_reducible (show wpList _ _ _ (Oper.mk (some 6) (Op.load _ _) _ _ _ _ :: _) _ _)); refine wpList_loadA_st (o := ⟨some 6, .load _ _, _, _, _, _⟩) rfl _ _ rfl rfl HS tk ag_laws_Segment lit rfl ?_))
  go_ret
  exact ⟨rfl, HS.ex⟩

set_option maxRecDepth 100000 in
set_option maxHeartbeats 4000000 in
theorem szPacket_gt_r (x_DstMac : Int) (x_SrcMac : Int) (x_Vlan : Int) (x_Tos : Int) (x_Id : Int) (x_Ttl : Int) (x_SrcIp : Int) (x_DstIp : Int) (x_Seg_Kind : Int) (x_Seg_SrcPort : Int) (x_Seg_DstPort : Int) (x_Seg_Seq : Int) (x_Seg_Ack : Int) (x_Seg_Flags : Int) (x_Seg_Window : Int) (x_Seg_Body : ByteArray) (l : Int) (w : World) (hl : l ≤ 1048576) (h0 : 0 ≤ l) (hs : l < (x_Seg_Body.size : Int)) (hx_Seg_Body : x_Seg_Body.size ≤ maxLen) :
    Calls Try.prog 132 #[.agg #[.int .i64 x_DstMac, .int .i64 x_SrcMac, .int .i64 x_Vlan, .int .i64 x_Tos, .int .i64 x_Id, .int .i64 x_Ttl, .int .i64 x_SrcIp, .int .i64 x_DstIp, .int .i64 x_Seg_Kind, .int .i64 x_Seg_SrcPort, .int .i64 x_Seg_DstPort, .int .i64 x_Seg_Seq, .int .i64 x_Seg_Ack, .int .i64 x_Seg_Flags, .int .i64 x_Seg_Window, .string x_Seg_Body], .int .i64 l] w fun e w' => e = .returned (.int .i64 (-1)) ∧ Ex w w' := by
  have h9 := hx_Seg_Body
  unfold maxLen at h9
  have HS := St.start w
  go_enter Try.func132, Try.ntmps132
  go_wp2_with (first
        | (go_at_call 154; (with_reducible refine (szSegment_gt_r x_Seg_Kind x_Seg_SrcPort x_Seg_DstPort x_Seg_Seq x_Seg_Ack x_Seg_Flags x_Seg_Window x_Seg_Body l _ hl h0 hs hx_Seg_Body).mono ?_); rintro e w' ⟨rfl, hx⟩; replace HS := HS.grow hx; clear hx)
        | ((with_reducible (show wpList _ _ _ (Oper.mk (some 2) (Op.box _ _) _ _ _ _ :: _) _ _)); refine wpList_box_st (o := ⟨some 2, .box _ _, _, _, _, _⟩) rfl _ _ rfl (v := .agg (List.toArray _)) rfl HS ?_; clear HS; intro w2 b2 hb2 HS; simp only [Value.cells] at HS)
        | ((with_reducible (show wpList _ _ _ (Oper.mk (some 2) (Op.box _ _) _ _ _ _ :: _) _ _)); refine wpList_box_st (o := ⟨some 2, .box _ _, _, _, _, _⟩) rfl _ _ rfl (v := .agg _) rfl HS ?_; clear HS; intro w2 b2 hb2 HS; simp only [Value.cells] at HS)
        | ((with_reducible (show wpList _ _ _ (Oper.mk (some 6) (Op.load _ _) _ _ _ _ :: _) _ _)); refine wpList_loadA_st (o := ⟨some 6, .load _ _, _, _, _, _⟩) rfl _ _ rfl rfl HS tk ag_laws_Segment lit rfl ?_))
  go_ret
  exact ⟨rfl, HS.ex⟩

set_option maxRecDepth 100000 in
set_option maxHeartbeats 4000000 in
theorem toSuper_r (x_Packet_DstMac : Int) (x_Packet_SrcMac : Int) (x_Packet_Vlan : Int) (x_Packet_Tos : Int) (x_Packet_Id : Int) (x_Packet_Ttl : Int) (x_Packet_SrcIp : Int) (x_Packet_DstIp : Int) (x_Packet_Seg_Kind : Int) (x_Packet_Seg_SrcPort : Int) (x_Packet_Seg_DstPort : Int) (x_Packet_Seg_Seq : Int) (x_Packet_Seg_Ack : Int) (x_Packet_Seg_Flags : Int) (x_Packet_Seg_Window : Int) (x_Packet_Seg_Body : ByteArray) (x_Size : Int) (x_Count : Int) (w : World) :
    Calls Try.prog 81 #[.agg #[.int .i64 x_Packet_DstMac, .int .i64 x_Packet_SrcMac, .int .i64 x_Packet_Vlan, .int .i64 x_Packet_Tos, .int .i64 x_Packet_Id, .int .i64 x_Packet_Ttl, .int .i64 x_Packet_SrcIp, .int .i64 x_Packet_DstIp, .int .i64 x_Packet_Seg_Kind, .int .i64 x_Packet_Seg_SrcPort, .int .i64 x_Packet_Seg_DstPort, .int .i64 x_Packet_Seg_Seq, .int .i64 x_Packet_Seg_Ack, .int .i64 x_Packet_Seg_Flags, .int .i64 x_Packet_Seg_Window, .string x_Packet_Seg_Body, .int .i64 x_Size, .int .i64 x_Count]] w fun e w' => e = .returned (.agg #[.int .i64 x_Packet_DstMac, .int .i64 x_Packet_SrcMac, .int .i64 x_Packet_Vlan, .int .i64 x_Packet_Tos, .int .i64 x_Packet_Id, .int .i64 x_Packet_Ttl, .int .i64 x_Packet_SrcIp, .int .i64 x_Packet_DstIp, .int .i64 x_Packet_Seg_Kind, .int .i64 x_Packet_Seg_SrcPort, .int .i64 x_Packet_Seg_DstPort, .int .i64 x_Packet_Seg_Seq, .int .i64 x_Packet_Seg_Ack, .int .i64 x_Packet_Seg_Flags, .int .i64 x_Packet_Seg_Window, .string x_Packet_Seg_Body, .int .i64 x_Size, .int .i64 x_Count]) ∧ Ex w w' := by
  have HS := St.start w
  go_enter Try.func81, Try.ntmps81
  go_wp2_with (first
        | (go_at_call 134; (with_reducible refine (toPacket_r x_Packet_DstMac x_Packet_SrcMac x_Packet_Vlan x_Packet_Tos x_Packet_Id x_Packet_Ttl x_Packet_SrcIp x_Packet_DstIp x_Packet_Seg_Kind x_Packet_Seg_SrcPort x_Packet_Seg_DstPort x_Packet_Seg_Seq x_Packet_Seg_Ack x_Packet_Seg_Flags x_Packet_Seg_Window x_Packet_Seg_Body _).mono ?_); rintro e w' ⟨rfl, hx⟩; replace HS := HS.grow hx; clear hx)
        | ((with_reducible (show wpList _ _ _ (Oper.mk (some 1) (Op.box _ _) _ _ _ _ :: _) _ _)); refine wpList_box_st (o := ⟨some 1, .box _ _, _, _, _, _⟩) rfl _ _ rfl (v := .agg (List.toArray _)) rfl HS ?_; clear HS; intro w1 b1 hb1 HS; simp only [Value.cells] at HS)
        | ((with_reducible (show wpList _ _ _ (Oper.mk (some 1) (Op.box _ _) _ _ _ _ :: _) _ _)); refine wpList_box_st (o := ⟨some 1, .box _ _, _, _, _, _⟩) rfl _ _ rfl (v := .agg _) rfl HS ?_; clear HS; intro w1 b1 hb1 HS; simp only [Value.cells] at HS)
        | ((with_reducible (show wpList _ _ _ (Oper.mk (some 2) (Op.alloc _) _ _ _ _ :: _) _ _)); refine wpList_alloc_st (o := ⟨some 2, .alloc _, _, _, _, _⟩) rfl _ rfl zc_impl_Super HS ?_; clear HS; intro w2 b2 hb2 HS)
        | ((with_reducible (show wpList _ _ _ (Oper.mk (some 3) (Op.alloc _) _ _ _ _ :: _) _ _)); refine wpList_alloc_st (o := ⟨some 3, .alloc _, _, _, _, _⟩) rfl _ rfl zc_impl_Super HS ?_; clear HS; intro w3 b3 hb3 HS)
        | ((with_reducible (show wpList _ _ _ (Oper.mk (some 5) (Op.load _ _) _ _ _ _ :: _) _ _)); refine wpList_loadA_st (o := ⟨some 5, .load _ _, _, _, _, _⟩) rfl _ _ rfl rfl HS tk ag_laws_Packet lit rfl ?_)
        | ((with_reducible (show wpList _ _ _ (Oper.mk none (Op.store _ (.tmp 7) _) _ _ _ _ :: _) _ _)); refine wpList_store_st (o := ⟨none, .store _ (.tmp 7) _, _, _, _, _⟩) rfl _ _ _ rfl rfl (v := .agg (List.toArray _)) rfl HS tk sz_impl_Packet vcs rfx rfx (by simp) ?_ rfl; clear HS; intro w2_4 hz2_4 HS; simp only [nicL, Value.cells, List.append_nil] at HS)
        | ((with_reducible (show wpList _ _ _ (Oper.mk none (Op.store _ (.tmp 7) _) _ _ _ _ :: _) _ _)); refine wpList_store_st (o := ⟨none, .store _ (.tmp 7) _, _, _, _, _⟩) rfl _ _ _ rfl rfl (v := .agg _) rfl HS tk sz_impl_Packet vcs rfx rfx (by simp) ?_ rfl; clear HS; intro w2_4 hz2_4 HS; simp only [nicL, Value.cells, List.append_nil] at HS)
        | ((with_reducible (show wpList _ _ _ (Oper.mk (some 9) (Op.load _ _) _ _ _ _ :: _) _ _)); refine wpList_loadS_st (o := ⟨some 9, .load _ _, _, _, _, _⟩) rfl _ _ rfl rfl HS tk sc_int rfx ?_)
        | ((with_reducible (show wpList _ _ _ (Oper.mk none (Op.store _ (.tmp 10) _) _ _ _ _ :: _) _ _)); refine wpList_store_st (o := ⟨none, .store _ (.tmp 10) _, _, _, _, _⟩) rfl _ _ _ rfl rfl (v := .int .i64 _) rfl HS tk sz_int vcs rfx rfx (by simp) ?_ rfl; clear HS; intro w3_3 hz3_3 HS; simp only [nicL, Value.cells, List.append_nil] at HS)
        | ((with_reducible (show wpList _ _ _ (Oper.mk (some 12) (Op.load _ _) _ _ _ _ :: _) _ _)); refine wpList_loadS_st (o := ⟨some 12, .load _ _, _, _, _, _⟩) rfl _ _ rfl rfl HS tk sc_int rfx ?_)
        | ((with_reducible (show wpList _ _ _ (Oper.mk none (Op.store _ (.tmp 13) _) _ _ _ _ :: _) _ _)); refine wpList_store_st (o := ⟨none, .store _ (.tmp 13) _, _, _, _, _⟩) rfl _ _ _ rfl rfl (v := .int .i64 _) rfl HS tk sz_int vcs rfx rfx (by simp) ?_ rfl; clear HS; intro w4_3 hz4_3 HS; simp only [nicL, Value.cells, List.append_nil] at HS)
        | ((with_reducible (show wpList _ _ _ (Oper.mk (some 14) (Op.load _ _) _ _ _ _ :: _) _ _)); refine wpList_loadA_st (o := ⟨some 14, .load _ _, _, _, _, _⟩) rfl _ _ rfl rfl HS tk ag_impl_Super lit rfl ?_)
        | ((with_reducible (show wpList _ _ _ (Oper.mk none (Op.store _ (.tmp 2) _) _ _ _ _ :: _) _ _)); refine wpList_store_st (o := ⟨none, .store _ (.tmp 2) _, _, _, _, _⟩) rfl _ _ _ rfl rfl (v := .agg (List.toArray _)) rfl HS tk sz_impl_Super vcs rfx rfx (by simp) ?_ rfl; clear HS; intro w5_1 hz5_1 HS; simp only [nicL, Value.cells, List.append_nil] at HS)
        | ((with_reducible (show wpList _ _ _ (Oper.mk none (Op.store _ (.tmp 2) _) _ _ _ _ :: _) _ _)); refine wpList_store_st (o := ⟨none, .store _ (.tmp 2) _, _, _, _, _⟩) rfl _ _ _ rfl rfl (v := .agg _) rfl HS tk sz_impl_Super vcs rfx rfx (by simp) ?_ rfl; clear HS; intro w5_1 hz5_1 HS; simp only [nicL, Value.cells, List.append_nil] at HS))
  refine bodyPost_retc rfx rfx HS tk ag_impl_Super rfx rfx ?_
  exact ⟨rfl, HS.ex⟩

set_option maxRecDepth 100000 in
set_option maxHeartbeats 4000000 in
theorem szSuper_le_r (x_Packet_DstMac : Int) (x_Packet_SrcMac : Int) (x_Packet_Vlan : Int) (x_Packet_Tos : Int) (x_Packet_Id : Int) (x_Packet_Ttl : Int) (x_Packet_SrcIp : Int) (x_Packet_DstIp : Int) (x_Packet_Seg_Kind : Int) (x_Packet_Seg_SrcPort : Int) (x_Packet_Seg_DstPort : Int) (x_Packet_Seg_Seq : Int) (x_Packet_Seg_Ack : Int) (x_Packet_Seg_Flags : Int) (x_Packet_Seg_Window : Int) (x_Packet_Seg_Body : ByteArray) (x_Size : Int) (x_Count : Int) (l : Int) (w : World) (hl : l ≤ 1048576) (hs : (x_Packet_Seg_Body.size : Int) ≤ l) (hx_Packet_Seg_Body : x_Packet_Seg_Body.size ≤ maxLen) :
    Calls Try.prog 79 #[.agg #[.int .i64 x_Packet_DstMac, .int .i64 x_Packet_SrcMac, .int .i64 x_Packet_Vlan, .int .i64 x_Packet_Tos, .int .i64 x_Packet_Id, .int .i64 x_Packet_Ttl, .int .i64 x_Packet_SrcIp, .int .i64 x_Packet_DstIp, .int .i64 x_Packet_Seg_Kind, .int .i64 x_Packet_Seg_SrcPort, .int .i64 x_Packet_Seg_DstPort, .int .i64 x_Packet_Seg_Seq, .int .i64 x_Packet_Seg_Ack, .int .i64 x_Packet_Seg_Flags, .int .i64 x_Packet_Seg_Window, .string x_Packet_Seg_Body, .int .i64 x_Size, .int .i64 x_Count], .int .i64 l] w fun e w' => e = .returned (.int .i64 (l - (x_Packet_Seg_Body.size : Int))) ∧ Ex w w' := by
  have h9 := hx_Packet_Seg_Body
  unfold maxLen at h9
  have HS := St.start w
  go_enter Try.func79, Try.ntmps79
  go_wp2_with (first
        | (go_at_call 132; (with_reducible refine (szPacket_le_r x_Packet_DstMac x_Packet_SrcMac x_Packet_Vlan x_Packet_Tos x_Packet_Id x_Packet_Ttl x_Packet_SrcIp x_Packet_DstIp x_Packet_Seg_Kind x_Packet_Seg_SrcPort x_Packet_Seg_DstPort x_Packet_Seg_Seq x_Packet_Seg_Ack x_Packet_Seg_Flags x_Packet_Seg_Window x_Packet_Seg_Body l _ hl hs hx_Packet_Seg_Body).mono ?_); rintro e w' ⟨rfl, hx⟩; replace HS := HS.grow hx; clear hx)
        | ((with_reducible (show wpList _ _ _ (Oper.mk (some 2) (Op.box _ _) _ _ _ _ :: _) _ _)); refine wpList_box_st (o := ⟨some 2, .box _ _, _, _, _, _⟩) rfl _ _ rfl (v := .agg (List.toArray _)) rfl HS ?_; clear HS; intro w2 b2 hb2 HS; simp only [Value.cells] at HS)
        | ((with_reducible (show wpList _ _ _ (Oper.mk (some 2) (Op.box _ _) _ _ _ _ :: _) _ _)); refine wpList_box_st (o := ⟨some 2, .box _ _, _, _, _, _⟩) rfl _ _ rfl (v := .agg _) rfl HS ?_; clear HS; intro w2 b2 hb2 HS; simp only [Value.cells] at HS)
        | ((with_reducible (show wpList _ _ _ (Oper.mk (some 6) (Op.load _ _) _ _ _ _ :: _) _ _)); refine wpList_loadA_st (o := ⟨some 6, .load _ _, _, _, _, _⟩) rfl _ _ rfl rfl HS tk ag_laws_Packet lit rfl ?_))
  go_ret
  exact ⟨rfl, HS.ex⟩

set_option maxRecDepth 100000 in
set_option maxHeartbeats 4000000 in
theorem szSuper_gt_r (x_Packet_DstMac : Int) (x_Packet_SrcMac : Int) (x_Packet_Vlan : Int) (x_Packet_Tos : Int) (x_Packet_Id : Int) (x_Packet_Ttl : Int) (x_Packet_SrcIp : Int) (x_Packet_DstIp : Int) (x_Packet_Seg_Kind : Int) (x_Packet_Seg_SrcPort : Int) (x_Packet_Seg_DstPort : Int) (x_Packet_Seg_Seq : Int) (x_Packet_Seg_Ack : Int) (x_Packet_Seg_Flags : Int) (x_Packet_Seg_Window : Int) (x_Packet_Seg_Body : ByteArray) (x_Size : Int) (x_Count : Int) (l : Int) (w : World) (hl : l ≤ 1048576) (h0 : 0 ≤ l) (hs : l < (x_Packet_Seg_Body.size : Int)) (hx_Packet_Seg_Body : x_Packet_Seg_Body.size ≤ maxLen) :
    Calls Try.prog 79 #[.agg #[.int .i64 x_Packet_DstMac, .int .i64 x_Packet_SrcMac, .int .i64 x_Packet_Vlan, .int .i64 x_Packet_Tos, .int .i64 x_Packet_Id, .int .i64 x_Packet_Ttl, .int .i64 x_Packet_SrcIp, .int .i64 x_Packet_DstIp, .int .i64 x_Packet_Seg_Kind, .int .i64 x_Packet_Seg_SrcPort, .int .i64 x_Packet_Seg_DstPort, .int .i64 x_Packet_Seg_Seq, .int .i64 x_Packet_Seg_Ack, .int .i64 x_Packet_Seg_Flags, .int .i64 x_Packet_Seg_Window, .string x_Packet_Seg_Body, .int .i64 x_Size, .int .i64 x_Count], .int .i64 l] w fun e w' => e = .returned (.int .i64 (-1)) ∧ Ex w w' := by
  have h9 := hx_Packet_Seg_Body
  unfold maxLen at h9
  have HS := St.start w
  go_enter Try.func79, Try.ntmps79
  go_wp2_with (first
        | (go_at_call 132; (with_reducible refine (szPacket_gt_r x_Packet_DstMac x_Packet_SrcMac x_Packet_Vlan x_Packet_Tos x_Packet_Id x_Packet_Ttl x_Packet_SrcIp x_Packet_DstIp x_Packet_Seg_Kind x_Packet_Seg_SrcPort x_Packet_Seg_DstPort x_Packet_Seg_Seq x_Packet_Seg_Ack x_Packet_Seg_Flags x_Packet_Seg_Window x_Packet_Seg_Body l _ hl h0 hs hx_Packet_Seg_Body).mono ?_); rintro e w' ⟨rfl, hx⟩; replace HS := HS.grow hx; clear hx)
        | ((with_reducible (show wpList _ _ _ (Oper.mk (some 2) (Op.box _ _) _ _ _ _ :: _) _ _)); refine wpList_box_st (o := ⟨some 2, .box _ _, _, _, _, _⟩) rfl _ _ rfl (v := .agg (List.toArray _)) rfl HS ?_; clear HS; intro w2 b2 hb2 HS; simp only [Value.cells] at HS)
        | ((with_reducible (show wpList _ _ _ (Oper.mk (some 2) (Op.box _ _) _ _ _ _ :: _) _ _)); refine wpList_box_st (o := ⟨some 2, .box _ _, _, _, _, _⟩) rfl _ _ rfl (v := .agg _) rfl HS ?_; clear HS; intro w2 b2 hb2 HS; simp only [Value.cells] at HS)
        | ((with_reducible (show wpList _ _ _ (Oper.mk (some 6) (Op.load _ _) _ _ _ _ :: _) _ _)); refine wpList_loadA_st (o := ⟨some 6, .load _ _, _, _, _, _⟩) rfl _ _ rfl rfl HS tk ag_laws_Packet lit rfl ?_))
  go_ret
  exact ⟨rfl, HS.ex⟩

set_option maxRecDepth 100000 in
set_option maxHeartbeats 4000000 in
theorem toRxQueue_r (x_Ring_Base : Int) (x_Ring_Size : Int) (x_Ring_Head : Int) (x_Ring_Tail : Int) (x_Device_Base : Int) (x_Device_Size : Int) (x_Device_Count : Int) (x_Driver_Base : Int) (x_Driver_Size : Int) (x_Driver_Count : Int) (x_Held_Packet_DstMac : Int) (x_Held_Packet_SrcMac : Int) (x_Held_Packet_Vlan : Int) (x_Held_Packet_Tos : Int) (x_Held_Packet_Id : Int) (x_Held_Packet_Ttl : Int) (x_Held_Packet_SrcIp : Int) (x_Held_Packet_DstIp : Int) (x_Held_Packet_Seg_Kind : Int) (x_Held_Packet_Seg_SrcPort : Int) (x_Held_Packet_Seg_DstPort : Int) (x_Held_Packet_Seg_Seq : Int) (x_Held_Packet_Seg_Ack : Int) (x_Held_Packet_Seg_Flags : Int) (x_Held_Packet_Seg_Window : Int) (x_Held_Packet_Seg_Body : ByteArray) (x_Held_Size : Int) (x_Held_Count : Int) (x_Holding : Bool) (x_Dropped : Int) (w : World) :
    Calls Try.prog 33 #[.agg #[.int .i64 x_Ring_Base, .int .i64 x_Ring_Size, .int .i64 x_Ring_Head, .int .i64 x_Ring_Tail, .int .i64 x_Device_Base, .int .i64 x_Device_Size, .int .i64 x_Device_Count, .int .i64 x_Driver_Base, .int .i64 x_Driver_Size, .int .i64 x_Driver_Count, .int .i64 x_Held_Packet_DstMac, .int .i64 x_Held_Packet_SrcMac, .int .i64 x_Held_Packet_Vlan, .int .i64 x_Held_Packet_Tos, .int .i64 x_Held_Packet_Id, .int .i64 x_Held_Packet_Ttl, .int .i64 x_Held_Packet_SrcIp, .int .i64 x_Held_Packet_DstIp, .int .i64 x_Held_Packet_Seg_Kind, .int .i64 x_Held_Packet_Seg_SrcPort, .int .i64 x_Held_Packet_Seg_DstPort, .int .i64 x_Held_Packet_Seg_Seq, .int .i64 x_Held_Packet_Seg_Ack, .int .i64 x_Held_Packet_Seg_Flags, .int .i64 x_Held_Packet_Seg_Window, .string x_Held_Packet_Seg_Body, .int .i64 x_Held_Size, .int .i64 x_Held_Count, .bool x_Holding, .int .i64 x_Dropped]] w fun e w' => e = .returned (.agg #[.int .i64 x_Ring_Base, .int .i64 x_Ring_Size, .int .i64 x_Ring_Head, .int .i64 x_Ring_Tail, .int .i64 x_Device_Base, .int .i64 x_Device_Size, .int .i64 x_Device_Count, .int .i64 x_Driver_Base, .int .i64 x_Driver_Size, .int .i64 x_Driver_Count, .int .i64 x_Held_Packet_DstMac, .int .i64 x_Held_Packet_SrcMac, .int .i64 x_Held_Packet_Vlan, .int .i64 x_Held_Packet_Tos, .int .i64 x_Held_Packet_Id, .int .i64 x_Held_Packet_Ttl, .int .i64 x_Held_Packet_SrcIp, .int .i64 x_Held_Packet_DstIp, .int .i64 x_Held_Packet_Seg_Kind, .int .i64 x_Held_Packet_Seg_SrcPort, .int .i64 x_Held_Packet_Seg_DstPort, .int .i64 x_Held_Packet_Seg_Seq, .int .i64 x_Held_Packet_Seg_Ack, .int .i64 x_Held_Packet_Seg_Flags, .int .i64 x_Held_Packet_Seg_Window, .string x_Held_Packet_Seg_Body, .int .i64 x_Held_Size, .int .i64 x_Held_Count, .bool x_Holding, .int .i64 x_Dropped]) ∧ Ex w w' := by
  have HS := St.start w
  go_enter Try.func33, Try.ntmps33
  go_wp2_with (first
        | (go_at_call 36; (with_reducible refine (toRing_r x_Ring_Base x_Ring_Size x_Ring_Head x_Ring_Tail _).mono ?_); rintro e w' ⟨rfl, hx⟩; replace HS := HS.grow hx; clear hx)
        | (go_at_call 21; (with_reducible refine (toCompletionQueue_r x_Device_Base x_Device_Size x_Device_Count _).mono ?_); rintro e w' ⟨rfl, hx⟩; replace HS := HS.grow hx; clear hx)
        | (go_at_call 21; (with_reducible refine (toCompletionQueue_r x_Driver_Base x_Driver_Size x_Driver_Count _).mono ?_); rintro e w' ⟨rfl, hx⟩; replace HS := HS.grow hx; clear hx)
        | (go_at_call 81; (with_reducible refine (toSuper_r x_Held_Packet_DstMac x_Held_Packet_SrcMac x_Held_Packet_Vlan x_Held_Packet_Tos x_Held_Packet_Id x_Held_Packet_Ttl x_Held_Packet_SrcIp x_Held_Packet_DstIp x_Held_Packet_Seg_Kind x_Held_Packet_Seg_SrcPort x_Held_Packet_Seg_DstPort x_Held_Packet_Seg_Seq x_Held_Packet_Seg_Ack x_Held_Packet_Seg_Flags x_Held_Packet_Seg_Window x_Held_Packet_Seg_Body x_Held_Size x_Held_Count _).mono ?_); rintro e w' ⟨rfl, hx⟩; replace HS := HS.grow hx; clear hx)
        | ((with_reducible (show wpList _ _ _ (Oper.mk (some 1) (Op.box _ _) _ _ _ _ :: _) _ _)); refine wpList_box_st (o := ⟨some 1, .box _ _, _, _, _, _⟩) rfl _ _ rfl (v := .agg (List.toArray _)) rfl HS ?_; clear HS; intro w1 b1 hb1 HS; simp only [Value.cells] at HS)
        | ((with_reducible (show wpList _ _ _ (Oper.mk (some 1) (Op.box _ _) _ _ _ _ :: _) _ _)); refine wpList_box_st (o := ⟨some 1, .box _ _, _, _, _, _⟩) rfl _ _ rfl (v := .agg _) rfl HS ?_; clear HS; intro w1 b1 hb1 HS; simp only [Value.cells] at HS)
        | ((with_reducible (show wpList _ _ _ (Oper.mk (some 2) (Op.alloc _) _ _ _ _ :: _) _ _)); refine wpList_alloc_st (o := ⟨some 2, .alloc _, _, _, _, _⟩) rfl _ rfl zc_impl_RxQueue HS ?_; clear HS; intro w2 b2 hb2 HS)
        | ((with_reducible (show wpList _ _ _ (Oper.mk (some 3) (Op.alloc _) _ _ _ _ :: _) _ _)); refine wpList_alloc_st (o := ⟨some 3, .alloc _, _, _, _, _⟩) rfl _ rfl zc_impl_RxQueue HS ?_; clear HS; intro w3 b3 hb3 HS)
        | ((with_reducible (show wpList _ _ _ (Oper.mk (some 5) (Op.load _ _) _ _ _ _ :: _) _ _)); refine wpList_loadA_st (o := ⟨some 5, .load _ _, _, _, _, _⟩) rfl _ _ rfl rfl HS tk ag_laws_Ring lit rfl ?_)
        | ((with_reducible (show wpList _ _ _ (Oper.mk none (Op.store _ (.tmp 7) _) _ _ _ _ :: _) _ _)); refine wpList_store_st (o := ⟨none, .store _ (.tmp 7) _, _, _, _, _⟩) rfl _ _ _ rfl rfl (v := .agg (List.toArray _)) rfl HS tk sz_impl_Ring vcs rfx rfx (by simp) ?_ rfl; clear HS; intro w2_4 hz2_4 HS; simp only [nicL, Value.cells, List.append_nil] at HS)
        | ((with_reducible (show wpList _ _ _ (Oper.mk none (Op.store _ (.tmp 7) _) _ _ _ _ :: _) _ _)); refine wpList_store_st (o := ⟨none, .store _ (.tmp 7) _, _, _, _, _⟩) rfl _ _ _ rfl rfl (v := .agg _) rfl HS tk sz_impl_Ring vcs rfx rfx (by simp) ?_ rfl; clear HS; intro w2_4 hz2_4 HS; simp only [nicL, Value.cells, List.append_nil] at HS)
        | ((with_reducible (show wpList _ _ _ (Oper.mk (some 9) (Op.load _ _) _ _ _ _ :: _) _ _)); refine wpList_loadA_st (o := ⟨some 9, .load _ _, _, _, _, _⟩) rfl _ _ rfl rfl HS tk ag_laws_CompletionQueue lit rfl ?_)
        | ((with_reducible (show wpList _ _ _ (Oper.mk none (Op.store _ (.tmp 11) _) _ _ _ _ :: _) _ _)); refine wpList_store_st (o := ⟨none, .store _ (.tmp 11) _, _, _, _, _⟩) rfl _ _ _ rfl rfl (v := .agg (List.toArray _)) rfl HS tk sz_impl_CompletionQueue vcs rfx rfx (by simp) ?_ rfl; clear HS; intro w3_4 hz3_4 HS; simp only [nicL, Value.cells, List.append_nil] at HS)
        | ((with_reducible (show wpList _ _ _ (Oper.mk none (Op.store _ (.tmp 11) _) _ _ _ _ :: _) _ _)); refine wpList_store_st (o := ⟨none, .store _ (.tmp 11) _, _, _, _, _⟩) rfl _ _ _ rfl rfl (v := .agg _) rfl HS tk sz_impl_CompletionQueue vcs rfx rfx (by simp) ?_ rfl; clear HS; intro w3_4 hz3_4 HS; simp only [nicL, Value.cells, List.append_nil] at HS)
        | ((with_reducible (show wpList _ _ _ (Oper.mk (some 13) (Op.load _ _) _ _ _ _ :: _) _ _)); refine wpList_loadA_st (o := ⟨some 13, .load _ _, _, _, _, _⟩) rfl _ _ rfl rfl HS tk ag_laws_CompletionQueue lit rfl ?_)
        | ((with_reducible (show wpList _ _ _ (Oper.mk none (Op.store _ (.tmp 15) _) _ _ _ _ :: _) _ _)); refine wpList_store_st (o := ⟨none, .store _ (.tmp 15) _, _, _, _, _⟩) rfl _ _ _ rfl rfl (v := .agg (List.toArray _)) rfl HS tk sz_impl_CompletionQueue vcs rfx rfx (by simp) ?_ rfl; clear HS; intro w4_4 hz4_4 HS; simp only [nicL, Value.cells, List.append_nil] at HS)
        | ((with_reducible (show wpList _ _ _ (Oper.mk none (Op.store _ (.tmp 15) _) _ _ _ _ :: _) _ _)); refine wpList_store_st (o := ⟨none, .store _ (.tmp 15) _, _, _, _, _⟩) rfl _ _ _ rfl rfl (v := .agg _) rfl HS tk sz_impl_CompletionQueue vcs rfx rfx (by simp) ?_ rfl; clear HS; intro w4_4 hz4_4 HS; simp only [nicL, Value.cells, List.append_nil] at HS)
        | ((with_reducible (show wpList _ _ _ (Oper.mk (some 17) (Op.load _ _) _ _ _ _ :: _) _ _)); refine wpList_loadA_st (o := ⟨some 17, .load _ _, _, _, _, _⟩) rfl _ _ rfl rfl HS tk ag_laws_Super lit rfl ?_)
        | ((with_reducible (show wpList _ _ _ (Oper.mk none (Op.store _ (.tmp 19) _) _ _ _ _ :: _) _ _)); refine wpList_store_st (o := ⟨none, .store _ (.tmp 19) _, _, _, _, _⟩) rfl _ _ _ rfl rfl (v := .agg (List.toArray _)) rfl HS tk sz_impl_Super vcs rfx rfx (by simp) ?_ rfl; clear HS; intro w5_4 hz5_4 HS; simp only [nicL, Value.cells, List.append_nil] at HS)
        | ((with_reducible (show wpList _ _ _ (Oper.mk none (Op.store _ (.tmp 19) _) _ _ _ _ :: _) _ _)); refine wpList_store_st (o := ⟨none, .store _ (.tmp 19) _, _, _, _, _⟩) rfl _ _ _ rfl rfl (v := .agg _) rfl HS tk sz_impl_Super vcs rfx rfx (by simp) ?_ rfl; clear HS; intro w5_4 hz5_4 HS; simp only [nicL, Value.cells, List.append_nil] at HS)
        | ((with_reducible (show wpList _ _ _ (Oper.mk (some 21) (Op.load _ _) _ _ _ _ :: _) _ _)); refine wpList_loadS_st (o := ⟨some 21, .load _ _, _, _, _, _⟩) rfl _ _ rfl rfl HS tk sc_bool rfx ?_)
        | ((with_reducible (show wpList _ _ _ (Oper.mk none (Op.store _ (.tmp 22) _) _ _ _ _ :: _) _ _)); refine wpList_store_st (o := ⟨none, .store _ (.tmp 22) _, _, _, _, _⟩) rfl _ _ _ rfl rfl (v := .bool _) rfl HS tk sz_bool vcs rfx rfx (by simp) ?_ rfl; clear HS; intro w6_3 hz6_3 HS; simp only [nicL, Value.cells, List.append_nil] at HS)
        | ((with_reducible (show wpList _ _ _ (Oper.mk (some 24) (Op.load _ _) _ _ _ _ :: _) _ _)); refine wpList_loadS_st (o := ⟨some 24, .load _ _, _, _, _, _⟩) rfl _ _ rfl rfl HS tk sc_int rfx ?_)
        | ((with_reducible (show wpList _ _ _ (Oper.mk none (Op.store _ (.tmp 25) _) _ _ _ _ :: _) _ _)); refine wpList_store_st (o := ⟨none, .store _ (.tmp 25) _, _, _, _, _⟩) rfl _ _ _ rfl rfl (v := .int .i64 _) rfl HS tk sz_int vcs rfx rfx (by simp) ?_ rfl; clear HS; intro w7_3 hz7_3 HS; simp only [nicL, Value.cells, List.append_nil] at HS)
        | ((with_reducible (show wpList _ _ _ (Oper.mk (some 26) (Op.load _ _) _ _ _ _ :: _) _ _)); refine wpList_loadA_st (o := ⟨some 26, .load _ _, _, _, _, _⟩) rfl _ _ rfl rfl HS tk ag_impl_RxQueue lit rfl ?_)
        | ((with_reducible (show wpList _ _ _ (Oper.mk none (Op.store _ (.tmp 2) _) _ _ _ _ :: _) _ _)); refine wpList_store_st (o := ⟨none, .store _ (.tmp 2) _, _, _, _, _⟩) rfl _ _ _ rfl rfl (v := .agg (List.toArray _)) rfl HS tk sz_impl_RxQueue vcs rfx rfx (by simp) ?_ rfl; clear HS; intro w8_1 hz8_1 HS; simp only [nicL, Value.cells, List.append_nil] at HS)
        | ((with_reducible (show wpList _ _ _ (Oper.mk none (Op.store _ (.tmp 2) _) _ _ _ _ :: _) _ _)); refine wpList_store_st (o := ⟨none, .store _ (.tmp 2) _, _, _, _, _⟩) rfl _ _ _ rfl rfl (v := .agg _) rfl HS tk sz_impl_RxQueue vcs rfx rfx (by simp) ?_ rfl; clear HS; intro w8_1 hz8_1 HS; simp only [nicL, Value.cells, List.append_nil] at HS))
  refine bodyPost_retc rfx rfx HS tk ag_impl_RxQueue rfx rfx ?_
  exact ⟨rfl, HS.ex⟩

set_option maxRecDepth 100000 in
set_option maxHeartbeats 4000000 in
theorem szRxQueue_le_r (x_Ring_Base : Int) (x_Ring_Size : Int) (x_Ring_Head : Int) (x_Ring_Tail : Int) (x_Device_Base : Int) (x_Device_Size : Int) (x_Device_Count : Int) (x_Driver_Base : Int) (x_Driver_Size : Int) (x_Driver_Count : Int) (x_Held_Packet_DstMac : Int) (x_Held_Packet_SrcMac : Int) (x_Held_Packet_Vlan : Int) (x_Held_Packet_Tos : Int) (x_Held_Packet_Id : Int) (x_Held_Packet_Ttl : Int) (x_Held_Packet_SrcIp : Int) (x_Held_Packet_DstIp : Int) (x_Held_Packet_Seg_Kind : Int) (x_Held_Packet_Seg_SrcPort : Int) (x_Held_Packet_Seg_DstPort : Int) (x_Held_Packet_Seg_Seq : Int) (x_Held_Packet_Seg_Ack : Int) (x_Held_Packet_Seg_Flags : Int) (x_Held_Packet_Seg_Window : Int) (x_Held_Packet_Seg_Body : ByteArray) (x_Held_Size : Int) (x_Held_Count : Int) (x_Holding : Bool) (x_Dropped : Int) (l : Int) (w : World) (hl : l ≤ 1048576) (hs : (x_Held_Packet_Seg_Body.size : Int) ≤ l) (hx_Held_Packet_Seg_Body : x_Held_Packet_Seg_Body.size ≤ maxLen) :
    Calls Try.prog 31 #[.agg #[.int .i64 x_Ring_Base, .int .i64 x_Ring_Size, .int .i64 x_Ring_Head, .int .i64 x_Ring_Tail, .int .i64 x_Device_Base, .int .i64 x_Device_Size, .int .i64 x_Device_Count, .int .i64 x_Driver_Base, .int .i64 x_Driver_Size, .int .i64 x_Driver_Count, .int .i64 x_Held_Packet_DstMac, .int .i64 x_Held_Packet_SrcMac, .int .i64 x_Held_Packet_Vlan, .int .i64 x_Held_Packet_Tos, .int .i64 x_Held_Packet_Id, .int .i64 x_Held_Packet_Ttl, .int .i64 x_Held_Packet_SrcIp, .int .i64 x_Held_Packet_DstIp, .int .i64 x_Held_Packet_Seg_Kind, .int .i64 x_Held_Packet_Seg_SrcPort, .int .i64 x_Held_Packet_Seg_DstPort, .int .i64 x_Held_Packet_Seg_Seq, .int .i64 x_Held_Packet_Seg_Ack, .int .i64 x_Held_Packet_Seg_Flags, .int .i64 x_Held_Packet_Seg_Window, .string x_Held_Packet_Seg_Body, .int .i64 x_Held_Size, .int .i64 x_Held_Count, .bool x_Holding, .int .i64 x_Dropped], .int .i64 l] w fun e w' => e = .returned (.int .i64 (l - (x_Held_Packet_Seg_Body.size : Int))) ∧ Ex w w' := by
  have h9 := hx_Held_Packet_Seg_Body
  unfold maxLen at h9
  have HS := St.start w
  go_enter Try.func31, Try.ntmps31
  go_wp2_with (first
        | (go_at_call 79; (with_reducible refine (szSuper_le_r x_Held_Packet_DstMac x_Held_Packet_SrcMac x_Held_Packet_Vlan x_Held_Packet_Tos x_Held_Packet_Id x_Held_Packet_Ttl x_Held_Packet_SrcIp x_Held_Packet_DstIp x_Held_Packet_Seg_Kind x_Held_Packet_Seg_SrcPort x_Held_Packet_Seg_DstPort x_Held_Packet_Seg_Seq x_Held_Packet_Seg_Ack x_Held_Packet_Seg_Flags x_Held_Packet_Seg_Window x_Held_Packet_Seg_Body x_Held_Size x_Held_Count l _ hl hs hx_Held_Packet_Seg_Body).mono ?_); rintro e w' ⟨rfl, hx⟩; replace HS := HS.grow hx; clear hx)
        | ((with_reducible (show wpList _ _ _ (Oper.mk (some 2) (Op.box _ _) _ _ _ _ :: _) _ _)); refine wpList_box_st (o := ⟨some 2, .box _ _, _, _, _, _⟩) rfl _ _ rfl (v := .agg (List.toArray _)) rfl HS ?_; clear HS; intro w2 b2 hb2 HS; simp only [Value.cells] at HS)
        | ((with_reducible (show wpList _ _ _ (Oper.mk (some 2) (Op.box _ _) _ _ _ _ :: _) _ _)); refine wpList_box_st (o := ⟨some 2, .box _ _, _, _, _, _⟩) rfl _ _ rfl (v := .agg _) rfl HS ?_; clear HS; intro w2 b2 hb2 HS; simp only [Value.cells] at HS)
        | ((with_reducible (show wpList _ _ _ (Oper.mk (some 6) (Op.load _ _) _ _ _ _ :: _) _ _)); refine wpList_loadA_st (o := ⟨some 6, .load _ _, _, _, _, _⟩) rfl _ _ rfl rfl HS tk ag_laws_Super lit rfl ?_))
  go_ret
  exact ⟨rfl, HS.ex⟩

set_option maxRecDepth 100000 in
set_option maxHeartbeats 4000000 in
theorem szRxQueue_gt_r (x_Ring_Base : Int) (x_Ring_Size : Int) (x_Ring_Head : Int) (x_Ring_Tail : Int) (x_Device_Base : Int) (x_Device_Size : Int) (x_Device_Count : Int) (x_Driver_Base : Int) (x_Driver_Size : Int) (x_Driver_Count : Int) (x_Held_Packet_DstMac : Int) (x_Held_Packet_SrcMac : Int) (x_Held_Packet_Vlan : Int) (x_Held_Packet_Tos : Int) (x_Held_Packet_Id : Int) (x_Held_Packet_Ttl : Int) (x_Held_Packet_SrcIp : Int) (x_Held_Packet_DstIp : Int) (x_Held_Packet_Seg_Kind : Int) (x_Held_Packet_Seg_SrcPort : Int) (x_Held_Packet_Seg_DstPort : Int) (x_Held_Packet_Seg_Seq : Int) (x_Held_Packet_Seg_Ack : Int) (x_Held_Packet_Seg_Flags : Int) (x_Held_Packet_Seg_Window : Int) (x_Held_Packet_Seg_Body : ByteArray) (x_Held_Size : Int) (x_Held_Count : Int) (x_Holding : Bool) (x_Dropped : Int) (l : Int) (w : World) (hl : l ≤ 1048576) (h0 : 0 ≤ l) (hs : l < (x_Held_Packet_Seg_Body.size : Int)) (hx_Held_Packet_Seg_Body : x_Held_Packet_Seg_Body.size ≤ maxLen) :
    Calls Try.prog 31 #[.agg #[.int .i64 x_Ring_Base, .int .i64 x_Ring_Size, .int .i64 x_Ring_Head, .int .i64 x_Ring_Tail, .int .i64 x_Device_Base, .int .i64 x_Device_Size, .int .i64 x_Device_Count, .int .i64 x_Driver_Base, .int .i64 x_Driver_Size, .int .i64 x_Driver_Count, .int .i64 x_Held_Packet_DstMac, .int .i64 x_Held_Packet_SrcMac, .int .i64 x_Held_Packet_Vlan, .int .i64 x_Held_Packet_Tos, .int .i64 x_Held_Packet_Id, .int .i64 x_Held_Packet_Ttl, .int .i64 x_Held_Packet_SrcIp, .int .i64 x_Held_Packet_DstIp, .int .i64 x_Held_Packet_Seg_Kind, .int .i64 x_Held_Packet_Seg_SrcPort, .int .i64 x_Held_Packet_Seg_DstPort, .int .i64 x_Held_Packet_Seg_Seq, .int .i64 x_Held_Packet_Seg_Ack, .int .i64 x_Held_Packet_Seg_Flags, .int .i64 x_Held_Packet_Seg_Window, .string x_Held_Packet_Seg_Body, .int .i64 x_Held_Size, .int .i64 x_Held_Count, .bool x_Holding, .int .i64 x_Dropped], .int .i64 l] w fun e w' => e = .returned (.int .i64 (-1)) ∧ Ex w w' := by
  have h9 := hx_Held_Packet_Seg_Body
  unfold maxLen at h9
  have HS := St.start w
  go_enter Try.func31, Try.ntmps31
  go_wp2_with (first
        | (go_at_call 79; (with_reducible refine (szSuper_gt_r x_Held_Packet_DstMac x_Held_Packet_SrcMac x_Held_Packet_Vlan x_Held_Packet_Tos x_Held_Packet_Id x_Held_Packet_Ttl x_Held_Packet_SrcIp x_Held_Packet_DstIp x_Held_Packet_Seg_Kind x_Held_Packet_Seg_SrcPort x_Held_Packet_Seg_DstPort x_Held_Packet_Seg_Seq x_Held_Packet_Seg_Ack x_Held_Packet_Seg_Flags x_Held_Packet_Seg_Window x_Held_Packet_Seg_Body x_Held_Size x_Held_Count l _ hl h0 hs hx_Held_Packet_Seg_Body).mono ?_); rintro e w' ⟨rfl, hx⟩; replace HS := HS.grow hx; clear hx)
        | ((with_reducible (show wpList _ _ _ (Oper.mk (some 2) (Op.box _ _) _ _ _ _ :: _) _ _)); refine wpList_box_st (o := ⟨some 2, .box _ _, _, _, _, _⟩) rfl _ _ rfl (v := .agg (List.toArray _)) rfl HS ?_; clear HS; intro w2 b2 hb2 HS; simp only [Value.cells] at HS)
        | ((with_reducible (show wpList _ _ _ (Oper.mk (some 2) (Op.box _ _) _ _ _ _ :: _) _ _)); refine wpList_box_st (o := ⟨some 2, .box _ _, _, _, _, _⟩) rfl _ _ rfl (v := .agg _) rfl HS ?_; clear HS; intro w2 b2 hb2 HS; simp only [Value.cells] at HS)
        | ((with_reducible (show wpList _ _ _ (Oper.mk (some 6) (Op.load _ _) _ _ _ _ :: _) _ _)); refine wpList_loadA_st (o := ⟨some 6, .load _ _, _, _, _, _⟩) rfl _ _ rfl rfl HS tk ag_laws_Super lit rfl ?_))
  go_ret
  exact ⟨rfl, HS.ex⟩

set_option maxRecDepth 100000 in
set_option maxHeartbeats 4000000 in
theorem eqDesc_r (x_Op : Int) (x_Flags : Int) (x_Len : Int) (x_At : Int) (x_Size : Int) (x_Cookie : Int) (w : World) :
    Calls Try.prog 91 #[.agg #[.int .i64 x_Op, .int .i64 x_Flags, .int .i64 x_Len, .int .i64 x_At, .int .i64 x_Size, .int .i64 x_Cookie], .agg #[.int .i64 x_Op, .int .i64 x_Flags, .int .i64 x_Len, .int .i64 x_At, .int .i64 x_Size, .int .i64 x_Cookie]] w fun e w' => e = .returned (.bool true) ∧ Ex w w' := by
  have e0 : (x_Op != x_Op) = false := by simp
  have e1 : (x_Flags != x_Flags) = false := by simp
  have e2 : (x_Len != x_Len) = false := by simp
  have e3 : (x_At != x_At) = false := by simp
  have e4 : (x_Size != x_Size) = false := by simp
  have e5 : (x_Cookie != x_Cookie) = false := by simp
  have HS := St.start w
  go_enter Try.func91, Try.ntmps91
  go_wp2_with (first
        | ((with_reducible (show wpList _ _ _ (Oper.mk (some 2) (Op.box _ _) _ _ _ _ :: _) _ _)); refine wpList_box_st (o := ⟨some 2, .box _ _, _, _, _, _⟩) rfl _ _ rfl (v := .agg (List.toArray _)) rfl HS ?_; clear HS; intro w2 b2 hb2 HS; simp only [Value.cells] at HS)
        | ((with_reducible (show wpList _ _ _ (Oper.mk (some 2) (Op.box _ _) _ _ _ _ :: _) _ _)); refine wpList_box_st (o := ⟨some 2, .box _ _, _, _, _, _⟩) rfl _ _ rfl (v := .agg _) rfl HS ?_; clear HS; intro w2 b2 hb2 HS; simp only [Value.cells] at HS)
        | ((with_reducible (show wpList _ _ _ (Oper.mk (some 3) (Op.box _ _) _ _ _ _ :: _) _ _)); refine wpList_box_st (o := ⟨some 3, .box _ _, _, _, _, _⟩) rfl _ _ rfl (v := .agg (List.toArray _)) rfl HS ?_; clear HS; intro w3 b3 hb3 HS; simp only [Value.cells] at HS)
        | ((with_reducible (show wpList _ _ _ (Oper.mk (some 3) (Op.box _ _) _ _ _ _ :: _) _ _)); refine wpList_box_st (o := ⟨some 3, .box _ _, _, _, _, _⟩) rfl _ _ rfl (v := .agg _) rfl HS ?_; clear HS; intro w3 b3 hb3 HS; simp only [Value.cells] at HS)
        | ((with_reducible (show wpList _ _ _ (Oper.mk (some 6) (Op.load _ _) _ _ _ _ :: _) _ _)); refine wpList_loadS_st (o := ⟨some 6, .load _ _, _, _, _, _⟩) rfl _ _ rfl rfl HS tk sc_int rfx ?_)
        | ((with_reducible (show wpList _ _ _ (Oper.mk (some 8) (Op.load _ _) _ _ _ _ :: _) _ _)); refine wpList_loadS_st (o := ⟨some 8, .load _ _, _, _, _, _⟩) rfl _ _ rfl rfl HS tk sc_int rfx ?_)
        | ((with_reducible (show wpList _ _ _ (Oper.mk (some 11) (Op.load _ _) _ _ _ _ :: _) _ _)); refine wpList_loadS_st (o := ⟨some 11, .load _ _, _, _, _, _⟩) rfl _ _ rfl rfl HS tk sc_int rfx ?_)
        | ((with_reducible (show wpList _ _ _ (Oper.mk (some 13) (Op.load _ _) _ _ _ _ :: _) _ _)); refine wpList_loadS_st (o := ⟨some 13, .load _ _, _, _, _, _⟩) rfl _ _ rfl rfl HS tk sc_int rfx ?_)
        | ((with_reducible (show wpList _ _ _ (Oper.mk (some 16) (Op.load _ _) _ _ _ _ :: _) _ _)); refine wpList_loadS_st (o := ⟨some 16, .load _ _, _, _, _, _⟩) rfl _ _ rfl rfl HS tk sc_int rfx ?_)
        | ((with_reducible (show wpList _ _ _ (Oper.mk (some 18) (Op.load _ _) _ _ _ _ :: _) _ _)); refine wpList_loadS_st (o := ⟨some 18, .load _ _, _, _, _, _⟩) rfl _ _ rfl rfl HS tk sc_int rfx ?_)
        | ((with_reducible (show wpList _ _ _ (Oper.mk (some 21) (Op.load _ _) _ _ _ _ :: _) _ _)); refine wpList_loadS_st (o := ⟨some 21, .load _ _, _, _, _, _⟩) rfl _ _ rfl rfl HS tk sc_int rfx ?_)
        | ((with_reducible (show wpList _ _ _ (Oper.mk (some 23) (Op.load _ _) _ _ _ _ :: _) _ _)); refine wpList_loadS_st (o := ⟨some 23, .load _ _, _, _, _, _⟩) rfl _ _ rfl rfl HS tk sc_int rfx ?_)
        | ((with_reducible (show wpList _ _ _ (Oper.mk (some 26) (Op.load _ _) _ _ _ _ :: _) _ _)); refine wpList_loadS_st (o := ⟨some 26, .load _ _, _, _, _, _⟩) rfl _ _ rfl rfl HS tk sc_int rfx ?_)
        | ((with_reducible (show wpList _ _ _ (Oper.mk (some 28) (Op.load _ _) _ _ _ _ :: _) _ _)); refine wpList_loadS_st (o := ⟨some 28, .load _ _, _, _, _, _⟩) rfl _ _ rfl rfl HS tk sc_int rfx ?_)
        | ((with_reducible (show wpList _ _ _ (Oper.mk (some 31) (Op.load _ _) _ _ _ _ :: _) _ _)); refine wpList_loadS_st (o := ⟨some 31, .load _ _, _, _, _, _⟩) rfl _ _ rfl rfl HS tk sc_int rfx ?_)
        | ((with_reducible (show wpList _ _ _ (Oper.mk (some 33) (Op.load _ _) _ _ _ _ :: _) _ _)); refine wpList_loadS_st (o := ⟨some 33, .load _ _, _, _, _, _⟩) rfl _ _ rfl rfl HS tk sc_int rfx ?_))
  go_ret
  exact ⟨rfl, HS.ex⟩

end Go.Proofs.Ytelkplponnfkpaa
