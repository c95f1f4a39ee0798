/- Part 5 of what the proof of FnExactPollQueue rests on: an idealised machine, contracts of functions, and the walk of the law. No condition. -/
import Derived.Test.YtbdcaacpemkloaaGreatMFnExactPollQueued
section
namespace Go.Proofs.YtbdcaacpemkloaaGreat
open Go Go.RowKit
set_option linter.unusedVariables false
set_option linter.unusedSimpArgs false
set_option linter.unusedSectionVars false
theorem sc_Sint : scalarT Tryz.prog 30 := ⟨_, Tryz.underlying30, rfl⟩
theorem sz_Sint : (Tryz.prog.info? 30).map (·.size) = some 1 := by kernel_rfl
theorem ag_impl_Flow : aggT Tryz.prog 194 5 := ⟨⟨_, Tryz.underlying194, rfl⟩, by kernel_rfl⟩
theorem zc_impl_Flow : zeroCells' Tryz.prog 194 = some [.int .i64 0, .int .i64 0, .int .i64 0, .int .i64 0, .int .i64 0] := by kernel_rfl
theorem sz_impl_Flow : (Tryz.prog.info? 194).map (·.size) = some 5 := by kernel_rfl
theorem ag_impl_Pool : aggT Tryz.prog 32 4 := ⟨⟨_, Tryz.underlying32, rfl⟩, by kernel_rfl⟩
theorem zc_impl_Pool : zeroCells' Tryz.prog 32 = some [.int .i64 0, .int .i64 0, .int .i64 0, .slice none 0 0] := by kernel_rfl
theorem sz_impl_Pool : (Tryz.prog.info? 32).map (·.size) = some 4 := by kernel_rfl
theorem ag_impl_RxQueue : aggT Tryz.prog 99 30 := ⟨⟨_, Tryz.underlying99, rfl⟩, by kernel_rfl⟩
theorem zc_impl_RxQueue : zeroCells' Tryz.prog 99 = some [.int .i64 0, .int .i64 0, .int .i64 0, .int .i64 0, .int .i64 0, .int .i64 0, .int .i64 0, .int .i64 0, .int .i64 0, .int .i64 0, .int .i64 0, .int .i64 0, .int .i64 0, .int .i64 0, .int .i64 0, .int .i64 0, .int .i64 0, .int .i64 0, .int .i64 0, .int .i64 0, .int .i64 0, .int .i64 0, .int .i64 0, .int .i64 0, .int .i64 0, .string ⟨#[]⟩, .int .i64 0, .int .i64 0, .bool false, .int .i64 0] := by kernel_rfl
theorem sz_impl_RxQueue : (Tryz.prog.info? 99).map (·.size) = some 30 := by kernel_rfl
theorem ag_impl_Stream : aggT Tryz.prog 196 8 := ⟨⟨_, Tryz.underlying196, rfl⟩, by kernel_rfl⟩
theorem zc_impl_Stream : zeroCells' Tryz.prog 196 = some [.int .i64 0, .int .i64 0, .int .i64 0, .int .i64 0, .int .i64 0, .int .i64 0, .string ⟨#[]⟩, .bool false] := by kernel_rfl
theorem sz_impl_Stream : (Tryz.prog.info? 196).map (·.size) = some 8 := by kernel_rfl
theorem ag_laws_Flow : aggT Tryz.prog 178 5 := ⟨⟨_, Tryz.underlying178, rfl⟩, by kernel_rfl⟩
theorem ag_laws_Memory : aggT Tryz.prog 56 1 := ⟨⟨_, Tryz.underlying56, rfl⟩, by kernel_rfl⟩
theorem ag_laws_Pool : aggT Tryz.prog 58 4 := ⟨⟨_, Tryz.underlying58, rfl⟩, by kernel_rfl⟩
theorem ag_laws_RxQueue : aggT Tryz.prog 90 30 := ⟨⟨_, Tryz.underlying90, rfl⟩, by kernel_rfl⟩
theorem ag_laws_Stream : aggT Tryz.prog 180 8 := ⟨⟨_, Tryz.underlying180, rfl⟩, by kernel_rfl⟩
theorem in_impl_Stream : infoT Tryz.prog 196 (.agg #[.int .i64 0, .int .i64 0, .int .i64 0, .int .i64 0, .int .i64 0, .int .i64 0, .string ⟨#[]⟩, .bool false]) 8 72 := ⟨by kernel_rfl, rfl⟩
set_option maxRecDepth 100000 in
set_option maxHeartbeats 4000000 in
theorem toFlow_r (x_Kind : Int) (x_SrcIp : Int) (x_DstIp : Int) (x_SrcPort : Int) (x_DstPort : Int) (w : World) :
    Calls Tryz.prog 203 #[.agg #[.int .i64 x_Kind, .int .i64 x_SrcIp, .int .i64 x_DstIp, .int .i64 x_SrcPort, .int .i64 x_DstPort]] w fun e w' => e = .returned (.agg #[.int .i64 x_Kind, .int .i64 x_SrcIp, .int .i64 x_DstIp, .int .i64 x_SrcPort, .int .i64 x_DstPort]) ∧ Ex w w' := by
  have HS := St.start w
  go_enter Tryz.func203, Tryz.ntmps203
  go_wp2_with (first
        | ((with_reducible (show wpList _ _ _ (Oper.mk (some 1) (Op.box _ _) _ _ _ _ :: _) _ _)); refine wpList_box_st (o := ⟨some 1, .box _ _, _, _, _, _⟩) rfl _ _ rfl (v := .agg (List.toArray _)) rfl HS ?_; clear HS; intro w1 b1 hb1 HS; simp only [Value.cells] at HS)
        | ((with_reducible (show wpList _ _ _ (Oper.mk (some 1) (Op.box _ _) _ _ _ _ :: _) _ _)); refine wpList_box_st (o := ⟨some 1, .box _ _, _, _, _, _⟩) rfl _ _ rfl (v := .agg _) rfl HS ?_; clear HS; intro w1 b1 hb1 HS; simp only [Value.cells] at HS)
        | ((with_reducible (show wpList _ _ _ (Oper.mk (some 2) (Op.alloc _) _ _ _ _ :: _) _ _)); refine wpList_alloc_st (o := ⟨some 2, .alloc _, _, _, _, _⟩) rfl _ rfl zc_impl_Flow HS ?_; clear HS; intro w2 b2 hb2 HS)
        | ((with_reducible (show wpList _ _ _ (Oper.mk (some 3) (Op.alloc _) _ _ _ _ :: _) _ _)); refine wpList_alloc_st (o := ⟨some 3, .alloc _, _, _, _, _⟩) rfl _ rfl zc_impl_Flow HS ?_; clear HS; intro w3 b3 hb3 HS)
        | ((with_reducible (show wpList _ _ _ (Oper.mk (some 5) (Op.load _ _) _ _ _ _ :: _) _ _)); refine wpList_loadS_st (o := ⟨some 5, .load _ _, _, _, _, _⟩) rfl _ _ rfl rfl HS tk sc_int rfx ?_)
        | ((with_reducible (show wpList _ _ _ (Oper.mk none (Op.store _ (.tmp 6) _) _ _ _ _ :: _) _ _)); refine wpList_store_st (o := ⟨none, .store _ (.tmp 6) _, _, _, _, _⟩) rfl _ _ _ rfl rfl (v := .int .i64 _) rfl HS tk sz_int vcs rfx rfx (by simp) ?_ rfl; clear HS; intro w2_3 hz2_3 HS; simp only [nicL, Value.cells, List.append_nil] at HS)
        | ((with_reducible (show wpList _ _ _ (Oper.mk (some 8) (Op.load _ _) _ _ _ _ :: _) _ _)); refine wpList_loadS_st (o := ⟨some 8, .load _ _, _, _, _, _⟩) rfl _ _ rfl rfl HS tk sc_int rfx ?_)
        | ((with_reducible (show wpList _ _ _ (Oper.mk none (Op.store _ (.tmp 9) _) _ _ _ _ :: _) _ _)); refine wpList_store_st (o := ⟨none, .store _ (.tmp 9) _, _, _, _, _⟩) rfl _ _ _ rfl rfl (v := .int .i64 _) rfl HS tk sz_int vcs rfx rfx (by simp) ?_ rfl; clear HS; intro w3_3 hz3_3 HS; simp only [nicL, Value.cells, List.append_nil] at HS)
        | ((with_reducible (show wpList _ _ _ (Oper.mk (some 11) (Op.load _ _) _ _ _ _ :: _) _ _)); refine wpList_loadS_st (o := ⟨some 11, .load _ _, _, _, _, _⟩) rfl _ _ rfl rfl HS tk sc_int rfx ?_)
        | ((with_reducible (show wpList _ _ _ (Oper.mk none (Op.store _ (.tmp 12) _) _ _ _ _ :: _) _ _)); refine wpList_store_st (o := ⟨none, .store _ (.tmp 12) _, _, _, _, _⟩) rfl _ _ _ rfl rfl (v := .int .i64 _) rfl HS tk sz_int vcs rfx rfx (by simp) ?_ rfl; clear HS; intro w4_3 hz4_3 HS; simp only [nicL, Value.cells, List.append_nil] at HS)
        | ((with_reducible (show wpList _ _ _ (Oper.mk (some 14) (Op.load _ _) _ _ _ _ :: _) _ _)); refine wpList_loadS_st (o := ⟨some 14, .load _ _, _, _, _, _⟩) rfl _ _ rfl rfl HS tk sc_int rfx ?_)
        | ((with_reducible (show wpList _ _ _ (Oper.mk none (Op.store _ (.tmp 15) _) _ _ _ _ :: _) _ _)); refine wpList_store_st (o := ⟨none, .store _ (.tmp 15) _, _, _, _, _⟩) rfl _ _ _ rfl rfl (v := .int .i64 _) rfl HS tk sz_int vcs rfx rfx (by simp) ?_ rfl; clear HS; intro w5_3 hz5_3 HS; simp only [nicL, Value.cells, List.append_nil] at HS)
        | ((with_reducible (show wpList _ _ _ (Oper.mk (some 17) (Op.load _ _) _ _ _ _ :: _) _ _)); refine wpList_loadS_st (o := ⟨some 17, .load _ _, _, _, _, _⟩) rfl _ _ rfl rfl HS tk sc_int rfx ?_)
        | ((with_reducible (show wpList _ _ _ (Oper.mk none (Op.store _ (.tmp 18) _) _ _ _ _ :: _) _ _)); refine wpList_store_st (o := ⟨none, .store _ (.tmp 18) _, _, _, _, _⟩) rfl _ _ _ rfl rfl (v := .int .i64 _) rfl HS tk sz_int vcs rfx rfx (by simp) ?_ rfl; clear HS; intro w6_3 hz6_3 HS; simp only [nicL, Value.cells, List.append_nil] at HS)
        | ((with_reducible (show wpList _ _ _ (Oper.mk (some 19) (Op.load _ _) _ _ _ _ :: _) _ _)); refine wpList_loadA_st (o := ⟨some 19, .load _ _, _, _, _, _⟩) rfl _ _ rfl rfl HS tk ag_impl_Flow lit rfl ?_)
        | ((with_reducible (show wpList _ _ _ (Oper.mk none (Op.store _ (.tmp 2) _) _ _ _ _ :: _) _ _)); refine wpList_store_st (o := ⟨none, .store _ (.tmp 2) _, _, _, _, _⟩) rfl _ _ _ rfl rfl (v := .agg (List.toArray _)) rfl HS tk sz_impl_Flow vcs rfx rfx (by simp) ?_ rfl; clear HS; intro w7_1 hz7_1 HS; simp only [nicL, Value.cells, List.append_nil] at HS)
        | ((with_reducible (show wpList _ _ _ (Oper.mk none (Op.store _ (.tmp 2) _) _ _ _ _ :: _) _ _)); refine wpList_store_st (o := ⟨none, .store _ (.tmp 2) _, _, _, _, _⟩) rfl _ _ _ rfl rfl (v := .agg _) rfl HS tk sz_impl_Flow vcs rfx rfx (by simp) ?_ rfl; clear HS; intro w7_1 hz7_1 HS; simp only [nicL, Value.cells, List.append_nil] at HS))
  refine bodyPost_retc rfx rfx HS tk ag_impl_Flow rfx rfx ?_
  exact ⟨rfl, HS.ex⟩
set_option maxRecDepth 100000 in
set_option maxHeartbeats 4000000 in
theorem eqFlow_r (x_Kind : Int) (x_SrcIp : Int) (x_DstIp : Int) (x_SrcPort : Int) (x_DstPort : Int) (w : World) :
    Calls Tryz.prog 213 #[.agg #[.int .i64 x_Kind, .int .i64 x_SrcIp, .int .i64 x_DstIp, .int .i64 x_SrcPort, .int .i64 x_DstPort], .agg #[.int .i64 x_Kind, .int .i64 x_SrcIp, .int .i64 x_DstIp, .int .i64 x_SrcPort, .int .i64 x_DstPort]] w fun e w' => e = .returned (.bool true) ∧ Ex w w' := by
  have e0 : (x_Kind != x_Kind) = false := by simp
  have e1 : (x_SrcIp != x_SrcIp) = false := by simp
  have e2 : (x_DstIp != x_DstIp) = false := by simp
  have e3 : (x_SrcPort != x_SrcPort) = false := by simp
  have e4 : (x_DstPort != x_DstPort) = false := by simp
  have HS := St.start w
  go_enter Tryz.func213, Tryz.ntmps213
  go_wp2_with (first
        | ((with_reducible (show wpList _ _ _ (Oper.mk (some 2) (Op.box _ _) _ _ _ _ :: _) _ _)); refine wpList_box_st (o := ⟨some 2, .box _ _, _, _, _, _⟩) rfl _ _ rfl (v := .agg (List.toArray _)) rfl HS ?_; clear HS; intro w2 b2 hb2 HS; simp only [Value.cells] at HS)
        | ((with_reducible (show wpList _ _ _ (Oper.mk (some 2) (Op.box _ _) _ _ _ _ :: _) _ _)); refine wpList_box_st (o := ⟨some 2, .box _ _, _, _, _, _⟩) rfl _ _ rfl (v := .agg _) rfl HS ?_; clear HS; intro w2 b2 hb2 HS; simp only [Value.cells] at HS)
        | ((with_reducible (show wpList _ _ _ (Oper.mk (some 3) (Op.box _ _) _ _ _ _ :: _) _ _)); refine wpList_box_st (o := ⟨some 3, .box _ _, _, _, _, _⟩) rfl _ _ rfl (v := .agg (List.toArray _)) rfl HS ?_; clear HS; intro w3 b3 hb3 HS; simp only [Value.cells] at HS)
        | ((with_reducible (show wpList _ _ _ (Oper.mk (some 3) (Op.box _ _) _ _ _ _ :: _) _ _)); refine wpList_box_st (o := ⟨some 3, .box _ _, _, _, _, _⟩) rfl _ _ rfl (v := .agg _) rfl HS ?_; clear HS; intro w3 b3 hb3 HS; simp only [Value.cells] at HS)
        | ((with_reducible (show wpList _ _ _ (Oper.mk (some 6) (Op.load _ _) _ _ _ _ :: _) _ _)); refine wpList_loadS_st (o := ⟨some 6, .load _ _, _, _, _, _⟩) rfl _ _ rfl rfl HS tk sc_int rfx ?_)
        | ((with_reducible (show wpList _ _ _ (Oper.mk (some 8) (Op.load _ _) _ _ _ _ :: _) _ _)); refine wpList_loadS_st (o := ⟨some 8, .load _ _, _, _, _, _⟩) rfl _ _ rfl rfl HS tk sc_int rfx ?_)
        | ((with_reducible (show wpList _ _ _ (Oper.mk (some 11) (Op.load _ _) _ _ _ _ :: _) _ _)); refine wpList_loadS_st (o := ⟨some 11, .load _ _, _, _, _, _⟩) rfl _ _ rfl rfl HS tk sc_int rfx ?_)
        | ((with_reducible (show wpList _ _ _ (Oper.mk (some 13) (Op.load _ _) _ _ _ _ :: _) _ _)); refine wpList_loadS_st (o := ⟨some 13, .load _ _, _, _, _, _⟩) rfl _ _ rfl rfl HS tk sc_int rfx ?_)
        | ((with_reducible (show wpList _ _ _ (Oper.mk (some 16) (Op.load _ _) _ _ _ _ :: _) _ _)); refine wpList_loadS_st (o := ⟨some 16, .load _ _, _, _, _, _⟩) rfl _ _ rfl rfl HS tk sc_int rfx ?_)
        | ((with_reducible (show wpList _ _ _ (Oper.mk (some 18) (Op.load _ _) _ _ _ _ :: _) _ _)); refine wpList_loadS_st (o := ⟨some 18, .load _ _, _, _, _, _⟩) rfl _ _ rfl rfl HS tk sc_int rfx ?_)
        | ((with_reducible (show wpList _ _ _ (Oper.mk (some 21) (Op.load _ _) _ _ _ _ :: _) _ _)); refine wpList_loadS_st (o := ⟨some 21, .load _ _, _, _, _, _⟩) rfl _ _ rfl rfl HS tk sc_int rfx ?_)
        | ((with_reducible (show wpList _ _ _ (Oper.mk (some 23) (Op.load _ _) _ _ _ _ :: _) _ _)); refine wpList_loadS_st (o := ⟨some 23, .load _ _, _, _, _, _⟩) rfl _ _ rfl rfl HS tk sc_int rfx ?_)
        | ((with_reducible (show wpList _ _ _ (Oper.mk (some 26) (Op.load _ _) _ _ _ _ :: _) _ _)); refine wpList_loadS_st (o := ⟨some 26, .load _ _, _, _, _, _⟩) rfl _ _ rfl rfl HS tk sc_int rfx ?_)
        | ((with_reducible (show wpList _ _ _ (Oper.mk (some 28) (Op.load _ _) _ _ _ _ :: _) _ _)); refine wpList_loadS_st (o := ⟨some 28, .load _ _, _, _, _, _⟩) rfl _ _ rfl rfl HS tk sc_int rfx ?_))
  go_ret
  exact ⟨rfl, HS.ex⟩
set_option maxRecDepth 100000 in
set_option maxHeartbeats 4000000 in
theorem toStream_r (x_Flow_Kind : Int) (x_Flow_SrcIp : Int) (x_Flow_DstIp : Int) (x_Flow_SrcPort : Int) (x_Flow_DstPort : Int) (x_Next : Int) (x_Data : ByteArray) (x_Done : Bool) (w : World) :
    Calls Tryz.prog 128 #[.agg #[.int .i64 x_Flow_Kind, .int .i64 x_Flow_SrcIp, .int .i64 x_Flow_DstIp, .int .i64 x_Flow_SrcPort, .int .i64 x_Flow_DstPort, .int .i64 x_Next, .string x_Data, .bool x_Done]] w fun e w' => e = .returned (.agg #[.int .i64 x_Flow_Kind, .int .i64 x_Flow_SrcIp, .int .i64 x_Flow_DstIp, .int .i64 x_Flow_SrcPort, .int .i64 x_Flow_DstPort, .int .i64 x_Next, .string x_Data, .bool x_Done]) ∧ Ex w w' := by
  have HS := St.start w
  go_enter Tryz.func128, Tryz.ntmps128
  go_wp2_with (first
        | (go_at_call 203; (with_reducible refine (toFlow_r x_Flow_Kind x_Flow_SrcIp x_Flow_DstIp x_Flow_SrcPort x_Flow_DstPort _).mono ?_); rintro e w' ⟨rfl, hx⟩; replace HS := HS.grow hx; clear hx)
        | ((with_reducible (show wpList _ _ _ (Oper.mk (some 1) (Op.box _ _) _ _ _ _ :: _) _ _)); refine wpList_box_st (o := ⟨some 1, .box _ _, _, _, _, _⟩) rfl _ _ rfl (v := .agg (List.toArray _)) rfl HS ?_; clear HS; intro w1 b1 hb1 HS; simp only [Value.cells] at HS)
        | ((with_reducible (show wpList _ _ _ (Oper.mk (some 1) (Op.box _ _) _ _ _ _ :: _) _ _)); refine wpList_box_st (o := ⟨some 1, .box _ _, _, _, _, _⟩) rfl _ _ rfl (v := .agg _) rfl HS ?_; clear HS; intro w1 b1 hb1 HS; simp only [Value.cells] at HS)
        | ((with_reducible (show wpList _ _ _ (Oper.mk (some 2) (Op.alloc _) _ _ _ _ :: _) _ _)); refine wpList_alloc_st (o := ⟨some 2, .alloc _, _, _, _, _⟩) rfl _ rfl zc_impl_Stream HS ?_; clear HS; intro w2 b2 hb2 HS)
        | ((with_reducible (show wpList _ _ _ (Oper.mk (some 3) (Op.alloc _) _ _ _ _ :: _) _ _)); refine wpList_alloc_st (o := ⟨some 3, .alloc _, _, _, _, _⟩) rfl _ rfl zc_impl_Stream HS ?_; clear HS; intro w3 b3 hb3 HS)
        | ((with_reducible (show wpList _ _ _ (Oper.mk (some 5) (Op.load _ _) _ _ _ _ :: _) _ _)); refine wpList_loadA_st (o := ⟨some 5, .load _ _, _, _, _, _⟩) rfl _ _ rfl rfl HS tk ag_laws_Flow lit rfl ?_)
        | ((with_reducible (show wpList _ _ _ (Oper.mk none (Op.store _ (.tmp 7) _) _ _ _ _ :: _) _ _)); refine wpList_store_st (o := ⟨none, .store _ (.tmp 7) _, _, _, _, _⟩) rfl _ _ _ rfl rfl (v := .agg (List.toArray _)) rfl HS tk sz_impl_Flow vcs rfx rfx (by simp) ?_ rfl; clear HS; intro w2_4 hz2_4 HS; simp only [nicL, Value.cells, List.append_nil] at HS)
        | ((with_reducible (show wpList _ _ _ (Oper.mk none (Op.store _ (.tmp 7) _) _ _ _ _ :: _) _ _)); refine wpList_store_st (o := ⟨none, .store _ (.tmp 7) _, _, _, _, _⟩) rfl _ _ _ rfl rfl (v := .agg _) rfl HS tk sz_impl_Flow vcs rfx rfx (by simp) ?_ rfl; clear HS; intro w2_4 hz2_4 HS; simp only [nicL, Value.cells, List.append_nil] at HS)
        | ((with_reducible (show wpList _ _ _ (Oper.mk (some 9) (Op.load _ _) _ _ _ _ :: _) _ _)); refine wpList_loadS_st (o := ⟨some 9, .load _ _, _, _, _, _⟩) rfl _ _ rfl rfl HS tk sc_int rfx ?_)
        | ((with_reducible (show wpList _ _ _ (Oper.mk none (Op.store _ (.tmp 10) _) _ _ _ _ :: _) _ _)); refine wpList_store_st (o := ⟨none, .store _ (.tmp 10) _, _, _, _, _⟩) rfl _ _ _ rfl rfl (v := .int .i64 _) rfl HS tk sz_int vcs rfx rfx (by simp) ?_ rfl; clear HS; intro w3_3 hz3_3 HS; simp only [nicL, Value.cells, List.append_nil] at HS)
        | ((with_reducible (show wpList _ _ _ (Oper.mk (some 12) (Op.load _ _) _ _ _ _ :: _) _ _)); refine wpList_loadS_st (o := ⟨some 12, .load _ _, _, _, _, _⟩) rfl _ _ rfl rfl HS tk sc_string rfx ?_)
        | ((with_reducible (show wpList _ _ _ (Oper.mk none (Op.store _ (.tmp 13) _) _ _ _ _ :: _) _ _)); refine wpList_store_st (o := ⟨none, .store _ (.tmp 13) _, _, _, _, _⟩) rfl _ _ _ rfl rfl (v := .string _) rfl HS tk sz_string vcs rfx rfx (by simp) ?_ rfl; clear HS; intro w4_3 hz4_3 HS; simp only [nicL, Value.cells, List.append_nil] at HS)
        | ((with_reducible (show wpList _ _ _ (Oper.mk (some 15) (Op.load _ _) _ _ _ _ :: _) _ _)); refine wpList_loadS_st (o := ⟨some 15, .load _ _, _, _, _, _⟩) rfl _ _ rfl rfl HS tk sc_bool rfx ?_)
        | ((with_reducible (show wpList _ _ _ (Oper.mk none (Op.store _ (.tmp 16) _) _ _ _ _ :: _) _ _)); refine wpList_store_st (o := ⟨none, .store _ (.tmp 16) _, _, _, _, _⟩) rfl _ _ _ rfl rfl (v := .bool _) rfl HS tk sz_bool vcs rfx rfx (by simp) ?_ rfl; clear HS; intro w5_3 hz5_3 HS; simp only [nicL, Value.cells, List.append_nil] at HS)
        | ((with_reducible (show wpList _ _ _ (Oper.mk (some 17) (Op.load _ _) _ _ _ _ :: _) _ _)); refine wpList_loadA_st (o := ⟨some 17, .load _ _, _, _, _, _⟩) rfl _ _ rfl rfl HS tk ag_impl_Stream lit rfl ?_)
        | ((with_reducible (show wpList _ _ _ (Oper.mk none (Op.store _ (.tmp 2) _) _ _ _ _ :: _) _ _)); refine wpList_store_st (o := ⟨none, .store _ (.tmp 2) _, _, _, _, _⟩) rfl _ _ _ rfl rfl (v := .agg (List.toArray _)) rfl HS tk sz_impl_Stream vcs rfx rfx (by simp) ?_ rfl; clear HS; intro w6_1 hz6_1 HS; simp only [nicL, Value.cells, List.append_nil] at HS)
        | ((with_reducible (show wpList _ _ _ (Oper.mk none (Op.store _ (.tmp 2) _) _ _ _ _ :: _) _ _)); refine wpList_store_st (o := ⟨none, .store _ (.tmp 2) _, _, _, _, _⟩) rfl _ _ _ rfl rfl (v := .agg _) rfl HS tk sz_impl_Stream vcs rfx rfx (by simp) ?_ rfl; clear HS; intro w6_1 hz6_1 HS; simp only [nicL, Value.cells, List.append_nil] at HS))
  refine bodyPost_retc rfx rfx HS tk ag_impl_Stream rfx rfx ?_
  exact ⟨rfl, HS.ex⟩
set_option maxRecDepth 100000 in
set_option maxHeartbeats 4000000 in
theorem szStream_le_r (x_Flow_Kind : Int) (x_Flow_SrcIp : Int) (x_Flow_DstIp : Int) (x_Flow_SrcPort : Int) (x_Flow_DstPort : Int) (x_Next : Int) (x_Data : ByteArray) (x_Done : Bool) (l : Int) (w : World) (hl : l ≤ 1048576) (hs : (x_Data.size : Int) ≤ l) (hx_Data : x_Data.size ≤ maxLen) :
    Calls Tryz.prog 115 #[.agg #[.int .i64 x_Flow_Kind, .int .i64 x_Flow_SrcIp, .int .i64 x_Flow_DstIp, .int .i64 x_Flow_SrcPort, .int .i64 x_Flow_DstPort, .int .i64 x_Next, .string x_Data, .bool x_Done], .int .i64 l] w fun e w' => e = .returned (.int .i64 (l - (x_Data.size : Int))) ∧ Ex w w' := by
  have h9 := hx_Data
  unfold maxLen at h9
  have HS := St.start w
  go_enter Tryz.func115, Tryz.ntmps115
  go_wp2_with (first
        | ((with_reducible (show wpList _ _ _ (Oper.mk (some 2) (Op.box _ _) _ _ _ _ :: _) _ _)); refine wpList_box_st (o := ⟨some 2, .box _ _, _, _, _, _⟩) rfl _ _ rfl (v := .agg (List.toArray _)) rfl HS ?_; clear HS; intro w2 b2 hb2 HS; simp only [Value.cells] at HS)
        | ((with_reducible (show wpList _ _ _ (Oper.mk (some 2) (Op.box _ _) _ _ _ _ :: _) _ _)); refine wpList_box_st (o := ⟨some 2, .box _ _, _, _, _, _⟩) rfl _ _ rfl (v := .agg _) rfl HS ?_; clear HS; intro w2 b2 hb2 HS; simp only [Value.cells] at HS)
        | ((with_reducible (show wpList _ _ _ (Oper.mk (some 7) (Op.load _ _) _ _ _ _ :: _) _ _)); refine wpList_loadS_st (o := ⟨some 7, .load _ _, _, _, _, _⟩) rfl _ _ rfl rfl HS tk sc_string rfx ?_))
  go_ret
  exact ⟨rfl, HS.ex⟩
set_option maxRecDepth 100000 in
set_option maxHeartbeats 4000000 in
theorem szStream_gt_r (x_Flow_Kind : Int) (x_Flow_SrcIp : Int) (x_Flow_DstIp : Int) (x_Flow_SrcPort : Int) (x_Flow_DstPort : Int) (x_Next : Int) (x_Data : ByteArray) (x_Done : Bool) (l : Int) (w : World) (hl : l ≤ 1048576) (h0 : 0 ≤ l) (hs : l < (x_Data.size : Int)) (hx_Data : x_Data.size ≤ maxLen) :
    Calls Tryz.prog 115 #[.agg #[.int .i64 x_Flow_Kind, .int .i64 x_Flow_SrcIp, .int .i64 x_Flow_DstIp, .int .i64 x_Flow_SrcPort, .int .i64 x_Flow_DstPort, .int .i64 x_Next, .string x_Data, .bool x_Done], .int .i64 l] w fun e w' => e = .returned (.int .i64 (-1)) ∧ Ex w w' := by
  have h9 := hx_Data
  unfold maxLen at h9
  have HS := St.start w
  go_enter Tryz.func115, Tryz.ntmps115
  go_wp2_with (first
        | ((with_reducible (show wpList _ _ _ (Oper.mk (some 2) (Op.box _ _) _ _ _ _ :: _) _ _)); refine wpList_box_st (o := ⟨some 2, .box _ _, _, _, _, _⟩) rfl _ _ rfl (v := .agg (List.toArray _)) rfl HS ?_; clear HS; intro w2 b2 hb2 HS; simp only [Value.cells] at HS)
        | ((with_reducible (show wpList _ _ _ (Oper.mk (some 2) (Op.box _ _) _ _ _ _ :: _) _ _)); refine wpList_box_st (o := ⟨some 2, .box _ _, _, _, _, _⟩) rfl _ _ rfl (v := .agg _) rfl HS ?_; clear HS; intro w2 b2 hb2 HS; simp only [Value.cells] at HS)
        | ((with_reducible (show wpList _ _ _ (Oper.mk (some 7) (Op.load _ _) _ _ _ _ :: _) _ _)); refine wpList_loadS_st (o := ⟨some 7, .load _ _, _, _, _, _⟩) rfl _ _ rfl rfl HS tk sc_string rfx ?_))
  go_ret
  exact ⟨rfl, HS.ex⟩
set_option maxRecDepth 100000 in
set_option maxHeartbeats 4000000 in
theorem eqStream_r (x_Flow_Kind : Int) (x_Flow_SrcIp : Int) (x_Flow_DstIp : Int) (x_Flow_SrcPort : Int) (x_Flow_DstPort : Int) (x_Next : Int) (x_Data : ByteArray) (x_Done : Bool) (w : World) :
    Calls Tryz.prog 140 #[.agg #[.int .i64 x_Flow_Kind, .int .i64 x_Flow_SrcIp, .int .i64 x_Flow_DstIp, .int .i64 x_Flow_SrcPort, .int .i64 x_Flow_DstPort, .int .i64 x_Next, .string x_Data, .bool x_Done], .agg #[.int .i64 x_Flow_Kind, .int .i64 x_Flow_SrcIp, .int .i64 x_Flow_DstIp, .int .i64 x_Flow_SrcPort, .int .i64 x_Flow_DstPort, .int .i64 x_Next, .string x_Data, .bool x_Done]] w fun e w' => e = .returned (.bool true) ∧ Ex w w' := by
  have e0 : (x_Next != x_Next) = false := by simp
  have e1 : (x_Data.toList == x_Data.toList) = true := beq_self_eq_true _
  have e2 : (x_Done != x_Done) = false := by simp
  have HS := St.start w
  go_enter Tryz.func140, Tryz.ntmps140
  go_wp2_with (first
        | (go_at_call 213; (with_reducible refine (eqFlow_r x_Flow_Kind x_Flow_SrcIp x_Flow_DstIp x_Flow_SrcPort x_Flow_DstPort _).mono ?_); rintro e w' ⟨rfl, hx⟩; replace HS := HS.grow hx; clear hx)
        | ((with_reducible (show wpList _ _ _ (Oper.mk (some 2) (Op.box _ _) _ _ _ _ :: _) _ _)); refine wpList_box_st (o := ⟨some 2, .box _ _, _, _, _, _⟩) rfl _ _ rfl (v := .agg (List.toArray _)) rfl HS ?_; clear HS; intro w2 b2 hb2 HS; simp only [Value.cells] at HS)
        | ((with_reducible (show wpList _ _ _ (Oper.mk (some 2) (Op.box _ _) _ _ _ _ :: _) _ _)); refine wpList_box_st (o := ⟨some 2, .box _ _, _, _, _, _⟩) rfl _ _ rfl (v := .agg _) rfl HS ?_; clear HS; intro w2 b2 hb2 HS; simp only [Value.cells] at HS)
        | ((with_reducible (show wpList _ _ _ (Oper.mk (some 3) (Op.box _ _) _ _ _ _ :: _) _ _)); refine wpList_box_st (o := ⟨some 3, .box _ _, _, _, _, _⟩) rfl _ _ rfl (v := .agg (List.toArray _)) rfl HS ?_; clear HS; intro w3 b3 hb3 HS; simp only [Value.cells] at HS)
        | ((with_reducible (show wpList _ _ _ (Oper.mk (some 3) (Op.box _ _) _ _ _ _ :: _) _ _)); refine wpList_box_st (o := ⟨some 3, .box _ _, _, _, _, _⟩) rfl _ _ rfl (v := .agg _) rfl HS ?_; clear HS; intro w3 b3 hb3 HS; simp only [Value.cells] at HS)
        | ((with_reducible (show wpList _ _ _ (Oper.mk (some 6) (Op.load _ _) _ _ _ _ :: _) _ _)); refine wpList_loadA_st (o := ⟨some 6, .load _ _, _, _, _, _⟩) rfl _ _ rfl rfl HS tk ag_impl_Flow lit rfl ?_)
        | ((with_reducible (show wpList _ _ _ (Oper.mk (some 8) (Op.load _ _) _ _ _ _ :: _) _ _)); refine wpList_loadA_st (o := ⟨some 8, .load _ _, _, _, _, _⟩) rfl _ _ rfl rfl HS tk ag_impl_Flow lit rfl ?_)
        | ((with_reducible (show wpList _ _ _ (Oper.mk (some 12) (Op.load _ _) _ _ _ _ :: _) _ _)); refine wpList_loadS_st (o := ⟨some 12, .load _ _, _, _, _, _⟩) rfl _ _ rfl rfl HS tk sc_int rfx ?_)
        | ((with_reducible (show wpList _ _ _ (Oper.mk (some 14) (Op.load _ _) _ _ _ _ :: _) _ _)); refine wpList_loadS_st (o := ⟨some 14, .load _ _, _, _, _, _⟩) rfl _ _ rfl rfl HS tk sc_int rfx ?_)
        | ((with_reducible (show wpList _ _ _ (Oper.mk (some 17) (Op.load _ _) _ _ _ _ :: _) _ _)); refine wpList_loadS_st (o := ⟨some 17, .load _ _, _, _, _, _⟩) rfl _ _ rfl rfl HS tk sc_string rfx ?_)
        | ((with_reducible (show wpList _ _ _ (Oper.mk (some 19) (Op.load _ _) _ _ _ _ :: _) _ _)); refine wpList_loadS_st (o := ⟨some 19, .load _ _, _, _, _, _⟩) rfl _ _ rfl rfl HS tk sc_string rfx ?_)
        | ((with_reducible (show wpList _ _ _ (Oper.mk (some 22) (Op.load _ _) _ _ _ _ :: _) _ _)); refine wpList_loadS_st (o := ⟨some 22, .load _ _, _, _, _, _⟩) rfl _ _ rfl rfl HS tk sc_bool rfx ?_)
        | ((with_reducible (show wpList _ _ _ (Oper.mk (some 24) (Op.load _ _) _ _ _ _ :: _) _ _)); refine wpList_loadS_st (o := ⟨some 24, .load _ _, _, _, _, _⟩) rfl _ _ rfl rfl HS tk sc_bool rfx ?_))
  go_ret
  exact ⟨rfl, HS.ex⟩
abbrev DtStream := (Int × Int × Int × Int × Int) × Int × ByteArray × Bool
set_option maxRecDepth 100000 in
set_option maxHeartbeats 4000000 in
theorem eqStreamS_same (v1 v2 : Value) (l : List DtStream) (w : World) (k1 : Holds w l [v1]) (k2 : Holds w l [v2]) :
    Calls Tryz.prog 49 #[v1, v2] w fun e w' => e = .returned (.bool true) ∧ Ex w w' := by
  obtain ⟨AA, cap, rfl, z1, z2⟩ := k1.fl
  unfold maxLen at z2
  obtain ⟨BB, cap2, rfl, y1, y2⟩ := k2.fl
  unfold maxLen at y2
  have HS := St.start w
  go_enter Tryz.func49, Tryz.ntmps49
  go_wp2
  go_loopw [5] (fun i wr => ∃ k : Nat, k ≤ l.length ∧ i = .int .i64 k ∧ St w wr []) (fun i _ => l.length - (intOf i).toNat)
  case atStart => exact ⟨0, Nat.zero_le _, rfl, (HS.arr (by repeat (first | exact Arr.nil | (with_reducible exact take_all _) | (refine Arr.cons tk ?_) | (refine arr_skip ?_))))⟩
  case round =>
    clear HS
    obtain ⟨k, hkl, rfl, HS⟩ := hrel
    by_cases hlt : k < l.length
    case pos =>
      obtain ⟨b, off, rfl⟩ := k1.flA (by omega)
      obtain ⟨b', off', rfl⟩ := k2.flA (by omega)
      have HK := hid (List.getElem?_eq_getElem hlt)
      generalize l[k] = x at *
      obtain ⟨⟨x_Flow_Kind, x_Flow_SrcIp, x_Flow_DstIp, x_Flow_SrcPort, x_Flow_DstPort⟩, x_Next, x_Data, x_Done⟩ := x
      go_wp2
      refine wp_region_plan_st HS (.early 0 (.early 1 (.early 2 (.early 3 (.early 4 (.forced 5 1 (.forced 6 1 (.forced 7 1 (.forced 8 2 (.forced 9 2 .done)))))))))) (by kernel_rfl) (by as_aux_lemma => kernel_rfl) ?_
      intro hne
      replace HS := HS.drew
      try go_simp
      repeat' (first
        | (with_reducible refine wpPlan_forced ?_)
        | ((with_reducible (first | (show wpPlan _ _ _ _ (.early 0 _) _ _) | (show wpPlan _ _ _ _ (.early 1 _) _ _) | (show wpPlan _ _ _ _ (.early 2 _) _ _) | (show wpPlan _ _ _ _ (.early 4 _) _ _))); (first | (refine wpPlan_skipE rfl rfl ?_; (try go_simp)) | (refine wpPlan_early rfl rfl ?_; intro K hK; (first | go_big_quiet_op); (first | go_big_quiet_on | (refine ⟨_, fun _ => rfl, ?_⟩; go_big_quiet_on)))))
        | ((with_reducible ((show wpPlan _ _ _ _ (.early 3 _) _ _))); (first | (refine wpPlan_skipE rfl rfl ?_; (try go_simp)) | (refine wpPlan_early rfl rfl ?_; intro K hK; (first | ((refine quiet_loadH  _ _ rfl rfl (fun _ hs => k1.ex hs.ex) HK.out (by first | rfl | (simp; done) | omega) ag_impl_Stream rfl flt ?_); (try go_simp)) | go_big_quiet_op); (first | go_big_quiet_on | (refine ⟨_, fun _ => rfl, ?_⟩; go_big_quiet_on)))))
        | ((with_reducible (first | (show wpOne _ _ _ _ 5 1 _ _ _) | (show wpOne _ _ _ _ 6 1 _ _ _))); (first | (refine wpOne_skip rfl rfl ?_; (try go_simp)) | (refine wpOne_1 rfl rfl ?_; intro K hK; go_simp; refine hK _ _ ?_ ?_; (focus (exact stw HS)); clear hK K)))
        | ((with_reducible ((show wpOne _ _ _ _ 7 1 _ _ _))); (first | (refine wpOne_skip rfl rfl ?_; (try go_simp)) | (refine wpOne_1 rfl rfl ?_; intro K hK; (first | (refine wp_loadH  _ _ rfl rfl HS (fun _ hs => k2.ex hs.ex) HK.out (by first | rfl | (simp; done) | omega) ag_impl_Stream rfl flt ?_)); (try go_simp); refine hK _ _ ?_ ?_; (focus (exact stw HS)); clear hK K)))
        | ((with_reducible ((show wpOne _ _ _ _ 8 2 _ _ _))); (first | (refine wpOne_skip rfl rfl ?_; (try go_simp)) | (refine wpOne_2 rfl rfl ?_; intro K hK; go_simp; (first | (go_at_call 140; (with_reducible refine (eqStream_r x_Flow_Kind x_Flow_SrcIp x_Flow_DstIp x_Flow_SrcPort x_Flow_DstPort x_Next x_Data x_Done _).mono ?_); rintro e w' ⟨rfl, hx⟩; replace HS := HS.grow hx; clear hx)); (try go_simp); refine hK _ _ ?_; clear hK K)))
        | ((with_reducible ((show wpOne _ _ _ _ 9 2 _ _ _))); (first | (refine wpOne_skip rfl rfl ?_; (try go_simp)) | (refine wpOne_2 rfl rfl ?_; intro K hK; go_simp; refine hK _ _ ?_; clear hK K)))
        | (with_reducible refine wpPlan_done ?_))
      go_wp2_with (first
            | (go_at_call 140; (with_reducible refine (eqStream_r x_Flow_Kind x_Flow_SrcIp x_Flow_DstIp x_Flow_SrcPort x_Flow_DstPort x_Next x_Data x_Done _).mono ?_); rintro e w' ⟨rfl, hx⟩; replace HS := HS.grow hx; clear hx))
      go_roundw
      case rel => exact ⟨k + 1, hlt, by go_num, (HS.arr (by repeat (first | exact Arr.nil | (with_reducible exact take_all _) | (refine Arr.cons tk ?_) | (refine arr_skip ?_))))⟩
      case measure => simp [intOf]; omega
    case neg =>
      obtain rfl : k = l.length := by omega
      go_wp2
      go_ret
      exact ⟨rfl, HS.ex⟩
set_option maxRecDepth 100000 in
set_option maxHeartbeats 4000000 in
theorem toStreamS_any (v : Value) (l : List DtStream) (w : World) (k1 : Holds w l [v]) (hl : l.length ≤ 1048576) :
    Calls Tryz.prog 45 #[v] w (RetSl w l) := by
  obtain ⟨AA, cap, rfl, z1, z2⟩ := k1.fl
  unfold maxLen at z2
  have zok : Flat.ok (((0, 0, 0, 0, 0), 0, (⟨#[]⟩ : ByteArray), false) : DtStream) := (by show ((i64ok (0) ∧ i64ok (0) ∧ i64ok (0) ∧ i64ok (0) ∧ i64ok (0)) ∧ i64ok (0) ∧ ((⟨#[]⟩ : ByteArray)).size ≤ maxLen ∧ True); unfold i64ok maxLen; decide)
  have HS := St.start w
  go_enter Tryz.func45, Tryz.ntmps45
  go_wp2_with (first
        | ((with_reducible (show wpList _ _ _ (Oper.mk (some 7) (Op.makeSlice _ _ _) _ _ _ _ :: _) _ _)); refine wpList_makeF_st (y0 := (((0, 0, 0, 0, 0), 0, (⟨#[]⟩ : ByteArray), false) : DtStream)) (o := ⟨some 7, .makeSlice _ _ _, _, _, _, _⟩) rfl _ _ _ rfl _ Tryz.underlying100 in_impl_Stream (n := l.length) rfl rfl rfl rfx zok (by omega) mxl HS ?_; clear HS; intro w7 b7 hb7 HS)
        | ((with_reducible (show wpList _ _ _ (Oper.mk (some 19) (Op.load _ _) _ _ _ _ :: _) _ _)); refine wpList_loadH (o := ⟨some 19, .load _ _, _, _, _, _⟩) rfl _ _ rfl rfl HS (fun _ hs => k1.ex hs.ex) HK.out (by first | rfl | (simp; done) | omega) ag_laws_Stream rfl flt ?_)
        | ((with_reducible (show wpList _ _ _ (Oper.mk none (Op.store _ (.tmp 21) _) _ _ _ _ :: _) _ _)); refine wpList_storeE_st (o := ⟨none, .store _ (.tmp 21) _, _, _, _, _⟩) rfl _ _ _ rfl rfl (v := .agg (List.toArray _)) rfl HS tk sz_impl_Stream 8 0 rfl (by first | rfl | (simp; done) | omega) hfl vcs rfx rfx HKF.out (el := ((x_Flow_Kind, x_Flow_SrcIp, x_Flow_DstIp, x_Flow_SrcPort, x_Flow_DstPort), x_Next, x_Data, x_Done)) HOK.out rfx (by simp) ?_ rfl; clear HS; intro w5_8 hz5_8 HS))
  rw [← fillL_zero l (((0, 0, 0, 0, 0), 0, (⟨#[]⟩ : ByteArray), false) : DtStream)] at HS
  go_loopw [4] (fun i wr => ∃ k : Nat, k ≤ l.length ∧ i = .int .i64 k ∧ St w wr [ownA (fillL l (((0, 0, 0, 0, 0), 0, (⟨#[]⟩ : ByteArray), false) : DtStream) k) [.slice (some ⟨b7, 0, none⟩) l.length l.length]]) (fun i _ => l.length - (intOf i).toNat)
  case atStart => exact ⟨0, Nat.zero_le _, rfl, HS⟩
  case round =>
    clear HS
    obtain ⟨k, hkl, rfl, HS⟩ := hrel
    by_cases hlt : k < l.length
    case pos =>
      obtain ⟨b, off, rfl⟩ := k1.flA (by omega)
      have hfl : k < (fillL l (((0, 0, 0, 0, 0), 0, (⟨#[]⟩ : ByteArray), false) : DtStream) k).length := by rw [fillL_length _ _ hkl]; exact hlt
      have HST := hid (fillL_set l (((0, 0, 0, 0, 0), 0, (⟨#[]⟩ : ByteArray), false) : DtStream) hlt)
      have HKF := hid (fillL_get l (((0, 0, 0, 0, 0), 0, (⟨#[]⟩ : ByteArray), false) : DtStream) hlt)
      have HOK : Hid (Flat.ok l[k]) := hid (k1.flok (List.getElem_mem hlt))
      have HK := hid (List.getElem?_eq_getElem hlt)
      generalize l[k] = x at *
      obtain ⟨⟨x_Flow_Kind, x_Flow_SrcIp, x_Flow_DstIp, x_Flow_SrcPort, x_Flow_DstPort⟩, x_Next, x_Data, x_Done⟩ := x
      go_wp2_with (first
            | (go_at_call 128; (with_reducible refine (toStream_r x_Flow_Kind x_Flow_SrcIp x_Flow_DstIp x_Flow_SrcPort x_Flow_DstPort x_Next x_Data x_Done _).mono ?_); rintro e w' ⟨rfl, hx⟩; replace HS := HS.grow hx; clear hx)
            | ((with_reducible (show wpList _ _ _ (Oper.mk (some 7) (Op.makeSlice _ _ _) _ _ _ _ :: _) _ _)); refine wpList_makeF_st (y0 := (((0, 0, 0, 0, 0), 0, (⟨#[]⟩ : ByteArray), false) : DtStream)) (o := ⟨some 7, .makeSlice _ _ _, _, _, _, _⟩) rfl _ _ _ rfl _ Tryz.underlying100 in_impl_Stream (n := l.length) rfl rfl rfl rfx zok (by omega) mxl HS ?_; clear HS; intro w7 b7 hb7 HS)
            | ((with_reducible (show wpList _ _ _ (Oper.mk (some 19) (Op.load _ _) _ _ _ _ :: _) _ _)); refine wpList_loadH (o := ⟨some 19, .load _ _, _, _, _, _⟩) rfl _ _ rfl rfl HS (fun _ hs => k1.ex hs.ex) HK.out (by first | rfl | (simp; done) | omega) ag_laws_Stream rfl flt ?_)
            | ((with_reducible (show wpList _ _ _ (Oper.mk none (Op.store _ (.tmp 21) _) _ _ _ _ :: _) _ _)); refine wpList_storeE_st (o := ⟨none, .store _ (.tmp 21) _, _, _, _, _⟩) rfl _ _ _ rfl rfl (v := .agg (List.toArray _)) rfl HS tk sz_impl_Stream 8 0 rfl (by first | rfl | (simp; done) | omega) hfl vcs rfx rfx HKF.out (el := ((x_Flow_Kind, x_Flow_SrcIp, x_Flow_DstIp, x_Flow_SrcPort, x_Flow_DstPort), x_Next, x_Data, x_Done)) HOK.out rfx (by simp) ?_ rfl; clear HS; intro w5_8 hz5_8 HS))
      rw [HST.out] at HS
      go_roundw
      case rel => exact ⟨k + 1, hlt, by go_num, (HS.arr (by repeat (first | exact Arr.nil | (with_reducible exact take_all _) | (refine Arr.cons tk ?_) | (refine arr_skip ?_))))⟩
      case measure => simp [intOf]; omega
    case neg =>
      obtain rfl : k = l.length := by omega
      rw [fillL_all] at HS
      go_wp2_with (first
            | ((with_reducible (show wpList _ _ _ (Oper.mk (some 7) (Op.makeSlice _ _ _) _ _ _ _ :: _) _ _)); refine wpList_makeF_st (y0 := (((0, 0, 0, 0, 0), 0, (⟨#[]⟩ : ByteArray), false) : DtStream)) (o := ⟨some 7, .makeSlice _ _ _, _, _, _, _⟩) rfl _ _ _ rfl _ Tryz.underlying100 in_impl_Stream (n := l.length) rfl rfl rfl rfx zok (by omega) mxl HS ?_; clear HS; intro w7 b7 hb7 HS)
            | ((with_reducible (show wpList _ _ _ (Oper.mk (some 19) (Op.load _ _) _ _ _ _ :: _) _ _)); refine wpList_loadH (o := ⟨some 19, .load _ _, _, _, _, _⟩) rfl _ _ rfl rfl HS (fun _ hs => k1.ex hs.ex) HK.out (by first | rfl | (simp; done) | omega) ag_laws_Stream rfl flt ?_)
            | ((with_reducible (show wpList _ _ _ (Oper.mk none (Op.store _ (.tmp 21) _) _ _ _ _ :: _) _ _)); refine wpList_storeE_st (o := ⟨none, .store _ (.tmp 21) _, _, _, _, _⟩) rfl _ _ _ rfl rfl (v := .agg (List.toArray _)) rfl HS tk sz_impl_Stream 8 0 rfl (by first | rfl | (simp; done) | omega) hfl vcs rfx rfx HKF.out (el := ((x_Flow_Kind, x_Flow_SrcIp, x_Flow_DstIp, x_Flow_SrcPort, x_Flow_DstPort), x_Next, x_Data, x_Done)) HOK.out rfx (by simp) ?_ rfl; clear HS; intro w5_8 hz5_8 HS))
      go_ret
      exact HS.ret tk
def wtStream : DtStream → Nat := fun ((x_Flow_Kind, x_Flow_SrcIp, x_Flow_DstIp, x_Flow_SrcPort, x_Flow_DstPort), x_Next, x_Data, x_Done) => x_Data.size
def totStream (l : List DtStream) : Nat := (l.map wtStream).sum
theorem totStream_take (ps : List DtStream) (k : Nat) (h : k < ps.length) : totStream (ps.take (k + 1)) = totStream (ps.take k) + wtStream ps[k] := by
  unfold totStream
  rw [List.take_add_one, List.getElem?_eq_getElem h, List.map_append, List.sum_append]; simp
theorem totStream_le (ps : List DtStream) (k : Nat) : totStream (ps.take k) ≤ totStream ps := by
  conv => rhs; rw [← List.take_append_drop k ps]
  unfold totStream
  rw [List.map_append, List.sum_append]; omega
theorem totStream_all (ps : List DtStream) : totStream (ps.take ps.length) = totStream ps := by rw [List.take_length]
set_option maxRecDepth 100000 in
set_option maxHeartbeats 4000000 in
theorem szStreamS_le (v : Value) (l : List DtStream) (left : Int) (w : World) (k1 : Holds w l [v]) (hl : left ≤ 1048576) (hs : ((l.length + totStream l : Nat) : Int) ≤ left) :
    Calls Tryz.prog 41 #[v, .int .i64 left] w fun e w' => e = .returned (.int .i64 (left - ((l.length + totStream l : Nat) : Int))) ∧ Ex w w' := by
  obtain ⟨AA, cap, rfl, z1, z2⟩ := k1.fl
  unfold maxLen at z2
  have HS := St.start w
  go_enter Tryz.func41, Tryz.ntmps41
  go_wp2_with (first
        | ((with_reducible (show wpList _ _ _ (Oper.mk (some 21) (Op.load _ _) _ _ _ _ :: _) _ _)); refine wpList_loadH (o := ⟨some 21, .load _ _, _, _, _, _⟩) rfl _ _ rfl rfl HS (fun _ hs => k1.ex hs.ex) HK.out (by first | rfl | (simp; done) | omega) ag_laws_Stream rfl flt ?_))
  go_loopw [1, 5] (fun lv i wr => ∃ k : Nat, k ≤ l.length ∧ lv = .int .i64 (left - ((l.length + totStream (l.take k) : Nat) : Int)) ∧ i = .int .i64 k ∧ St w wr []) (fun _ i _ => l.length - (intOf i).toNat)
  case atStart => exact ⟨0, Nat.zero_le _, by simp [totStream], rfl, (HS.arr (by repeat (first | exact Arr.nil | (with_reducible exact take_all _) | (refine Arr.cons tk ?_) | (refine arr_skip ?_))))⟩
  case round =>
    clear HS
    obtain ⟨k, hkl, rfl, rfl, HS⟩ := hrel
    by_cases hlt : k < l.length
    case pos =>
      obtain ⟨b, off, rfl⟩ := k1.flA (by omega)
      have ht := totStream_take l k hlt
      have ht2 := totStream_le l (k + 1)
      have hok := k1.flok (List.getElem_mem hlt)
      have HK := hid (List.getElem?_eq_getElem hlt)
      generalize l[k] = x at *
      obtain ⟨⟨x_Flow_Kind, x_Flow_SrcIp, x_Flow_DstIp, x_Flow_SrcPort, x_Flow_DstPort⟩, x_Next, x_Data, x_Done⟩ := x
      have hxo : ((i64ok (x_Flow_Kind) ∧ i64ok (x_Flow_SrcIp) ∧ i64ok (x_Flow_DstIp) ∧ i64ok (x_Flow_SrcPort) ∧ i64ok (x_Flow_DstPort)) ∧ i64ok (x_Next) ∧ (x_Data).size ≤ maxLen ∧ True) := hok
      obtain ⟨⟨o0, o1, o2, o3, o4⟩, o5, o6, o7⟩ := hxo
      have hbd : x_Data.size ≤ maxLen := o6
      have hbd2 := hbd
      unfold maxLen at hbd2
      clear o0 o1 o2 o3 o4 o5 hok
      rw [ht] at ht2
      simp only [wtStream] at ht ht2
      have HT := hid ht
      generalize totStream (l.take k) = TA at *
      generalize totStream l = TT at *
      clear ht
      go_wp2_with (first
            | (go_at_call 115; (with_reducible refine (szStream_le_r x_Flow_Kind x_Flow_SrcIp x_Flow_DstIp x_Flow_SrcPort x_Flow_DstPort x_Next x_Data x_Done _ _ (by omega) (by omega) hbd).mono ?_); rintro e w' ⟨rfl, hx⟩; replace HS := HS.grow hx; clear hx)
            | ((with_reducible (show wpList _ _ _ (Oper.mk (some 21) (Op.load _ _) _ _ _ _ :: _) _ _)); refine wpList_loadH (o := ⟨some 21, .load _ _, _, _, _, _⟩) rfl _ _ rfl rfl HS (fun _ hs => k1.ex hs.ex) HK.out (by first | rfl | (simp; done) | omega) ag_laws_Stream rfl flt ?_))
      go_roundw
      case rel => exact ⟨k + 1, hlt, by rw [HT.out]; congr 1; omega, by go_num, (HS.arr (by repeat (first | exact Arr.nil | (with_reducible exact take_all _) | (refine Arr.cons tk ?_) | (refine arr_skip ?_))))⟩
      case measure => simp [intOf]; omega
    case neg =>
      obtain rfl : k = l.length := by omega
      rw [totStream_all] at *
      go_wp2_with (first
            | ((with_reducible (show wpList _ _ _ (Oper.mk (some 21) (Op.load _ _) _ _ _ _ :: _) _ _)); refine wpList_loadH (o := ⟨some 21, .load _ _, _, _, _, _⟩) rfl _ _ rfl rfl HS (fun _ hs => k1.ex hs.ex) HK.out (by first | rfl | (simp; done) | omega) ag_laws_Stream rfl flt ?_))
      go_ret
      exact ⟨rfl, HS.ex⟩
set_option maxRecDepth 100000 in
set_option maxHeartbeats 4000000 in
theorem szStreamS_gt (v : Value) (l : List DtStream) (left : Int) (w : World) (k1 : Holds w l [v]) (hl : left ≤ 1048576) (h0 : 0 ≤ left) (hs : left < ((l.length + totStream l : Nat) : Int)) :
    Calls Tryz.prog 41 #[v, .int .i64 left] w fun e w' => e = .returned (.int .i64 (-1)) ∧ Ex w w' := by
  obtain ⟨AA, cap, rfl, z1, z2⟩ := k1.fl
  unfold maxLen at z2
  by_cases hfirst : left < l.length
  case pos =>
    have HS := St.start w
    go_enter Tryz.func41, Tryz.ntmps41
    go_wp2_with (first
          | ((with_reducible (show wpList _ _ _ (Oper.mk (some 21) (Op.load _ _) _ _ _ _ :: _) _ _)); refine wpList_loadH (o := ⟨some 21, .load _ _, _, _, _, _⟩) rfl _ _ rfl rfl HS (fun _ hs => k1.ex hs.ex) HK.out (by first | rfl | (simp; done) | omega) ag_laws_Stream rfl flt ?_))
    go_ret
    exact ⟨rfl, HS.ex⟩
  case neg =>
  have HS := St.start w
  go_enter Tryz.func41, Tryz.ntmps41
  go_wp2_with (first
        | ((with_reducible (show wpList _ _ _ (Oper.mk (some 21) (Op.load _ _) _ _ _ _ :: _) _ _)); refine wpList_loadH (o := ⟨some 21, .load _ _, _, _, _, _⟩) rfl _ _ rfl rfl HS (fun _ hs => k1.ex hs.ex) HK.out (by first | rfl | (simp; done) | omega) ag_laws_Stream rfl flt ?_))
  go_loopw [1, 5] (fun lv i wr => ∃ k : Nat, k ≤ l.length ∧ ((l.length + totStream (l.take k) : Nat) : Int) ≤ left ∧ lv = .int .i64 (left - ((l.length + totStream (l.take k) : Nat) : Int)) ∧ i = .int .i64 k ∧ St w wr []) (fun _ i _ => l.length - (intOf i).toNat)
  case atStart => exact ⟨0, Nat.zero_le _, by simp [totStream]; omega, by simp [totStream], rfl, (HS.arr (by repeat (first | exact Arr.nil | (with_reducible exact take_all _) | (refine Arr.cons tk ?_) | (refine arr_skip ?_))))⟩
  case round =>
    clear HS
    obtain ⟨k, hkl, hle, rfl, rfl, HS⟩ := hrel
    by_cases hlt : k < l.length
    case pos =>
      obtain ⟨b, off, rfl⟩ := k1.flA (by omega)
      have ht := totStream_take l k hlt
      have ht2 := totStream_le l (k + 1)
      have hok := k1.flok (List.getElem_mem hlt)
      have HK := hid (List.getElem?_eq_getElem hlt)
      generalize l[k] = x at *
      obtain ⟨⟨x_Flow_Kind, x_Flow_SrcIp, x_Flow_DstIp, x_Flow_SrcPort, x_Flow_DstPort⟩, x_Next, x_Data, x_Done⟩ := x
      have hxo : ((i64ok (x_Flow_Kind) ∧ i64ok (x_Flow_SrcIp) ∧ i64ok (x_Flow_DstIp) ∧ i64ok (x_Flow_SrcPort) ∧ i64ok (x_Flow_DstPort)) ∧ i64ok (x_Next) ∧ (x_Data).size ≤ maxLen ∧ True) := hok
      obtain ⟨⟨o0, o1, o2, o3, o4⟩, o5, o6, o7⟩ := hxo
      have hbd : x_Data.size ≤ maxLen := o6
      have hbd2 := hbd
      unfold maxLen at hbd2
      clear o0 o1 o2 o3 o4 o5 hok
      rw [ht] at ht2
      simp only [wtStream] at ht ht2
      have HT := hid ht
      generalize totStream (l.take k) = TA at *
      generalize totStream l = TT at *
      clear ht
      by_cases hov : left < ((l.length + (TA + x_Data.size) : Nat) : Int)
      case pos =>
        go_wp2_with (first
              | (go_at_call 115; (with_reducible refine (szStream_gt_r x_Flow_Kind x_Flow_SrcIp x_Flow_DstIp x_Flow_SrcPort x_Flow_DstPort x_Next x_Data x_Done _ _ (by omega) (by omega) (by omega) hbd).mono ?_); rintro e w' ⟨rfl, hx⟩; replace HS := HS.grow hx; clear hx)
              | ((with_reducible (show wpList _ _ _ (Oper.mk (some 21) (Op.load _ _) _ _ _ _ :: _) _ _)); refine wpList_loadH (o := ⟨some 21, .load _ _, _, _, _, _⟩) rfl _ _ rfl rfl HS (fun _ hs => k1.ex hs.ex) HK.out (by first | rfl | (simp; done) | omega) ag_laws_Stream rfl flt ?_))
        go_ret
        exact ⟨rfl, HS.ex⟩
      case neg =>
        go_wp2_with (first
              | (go_at_call 115; (with_reducible refine (szStream_le_r x_Flow_Kind x_Flow_SrcIp x_Flow_DstIp x_Flow_SrcPort x_Flow_DstPort x_Next x_Data x_Done _ _ (by omega) (by omega) hbd).mono ?_); rintro e w' ⟨rfl, hx⟩; replace HS := HS.grow hx; clear hx)
              | ((with_reducible (show wpList _ _ _ (Oper.mk (some 21) (Op.load _ _) _ _ _ _ :: _) _ _)); refine wpList_loadH (o := ⟨some 21, .load _ _, _, _, _, _⟩) rfl _ _ rfl rfl HS (fun _ hs => k1.ex hs.ex) HK.out (by first | rfl | (simp; done) | omega) ag_laws_Stream rfl flt ?_))
        go_roundw
        case rel => exact ⟨k + 1, hlt, by rw [HT.out]; omega, by rw [HT.out]; congr 1; omega, by go_num, (HS.arr (by repeat (first | exact Arr.nil | (with_reducible exact take_all _) | (refine Arr.cons tk ?_) | (refine arr_skip ?_))))⟩
        case measure => simp [intOf]; omega
    case neg =>
      obtain rfl : k = l.length := by omega
      rw [totStream_all] at hle; omega
def melStream (q : Nat) : DtStream := (((q : Int), (q : Int) + 1, (q : Int) + 2, (q : Int) + 3, (q : Int) + 4), (q : Int) + 5, mtext (q + 6), ((q : Int) + 7) % 3 == 0)
def mklStream (n q : Nat) : List DtStream := (List.range n).map fun i => melStream (q + 8 * i)
theorem mklStream_length (n q : Nat) : (mklStream n q).length = n := by simp [mklStream]
theorem mklStream_get {n q i : Nat} (h : i < n) : (mklStream n q)[i]? = some (melStream (q + 8 * i)) := by simp [mklStream, h]
theorem mklStream_step {l : List DtStream} {q i : Nat} (h : i < l.length) : (mklStream i q ++ l.drop i).set i (melStream (q + 8 * i)) = mklStream (i + 1) q ++ l.drop (i + 1) := by
  rw [List.set_append_right _ _ (by rw [mklStream_length]; exact Nat.le_refl _), mklStream_length, Nat.sub_self, List.drop_eq_getElem_cons h, List.set_cons_zero]
  unfold mklStream
  rw [List.range_succ, List.map_append, List.append_assoc]
  rfl
theorem mklStream_at {l : List DtStream} {q i : Nat} (h : i < l.length) : (mklStream i q ++ l.drop i)[i]? = some l[i] := by
  rw [List.getElem?_append_right (by rw [mklStream_length]; exact Nat.le_refl _), mklStream_length, Nat.sub_self, List.drop_eq_getElem_cons h]; rfl
theorem markText_i (K : Nat) (w : World) {k : Int} (h0 : 0 < K) (h1 : K ≤ 4611686018427387904) (hk : k = (K : Int)) :
    Calls Tryz.prog 142 #[.int .i64 k] w fun e w' => e = .returned (.string (mtext K)) ∧ Ex w w' := hk ▸ markText_any K w h0 h1
set_option maxRecDepth 100000 in
set_option maxHeartbeats 4000000 in
theorem markStreamS_st {w0 : World} {Js : List Asn} (v : Value) (l : List DtStream) (q0 : Nat) (w : World) (HS : St w0 w (ownA l [v] :: Js)) (h0 : 0 < q0) (h1 : q0 + 8 * l.length ≤ 4611686018427384904) {k : Int} (hk : k = (q0 : Int)) :
    Calls Tryz.prog 51 #[v, .int .i64 k] w (fun e w' => e = .returned (.int .i64 ((q0 + 8 * l.length : Nat) : Int)) ∧ St w0 w' (ownA (mklStream l.length q0) [v] :: Js)) := by
  subst hk
  obtain ⟨A1, c1, rfl⟩ := ownA.form HS .head
  have hokl : ∀ x ∈ l, Flat.ok x := fun x hx => (HS.holds .head).flok hx
  replace hokl := hid hokl
  go_enter Tryz.func51, Tryz.ntmps51
  go_wp2_with (first
        | ((with_reducible (show wpList _ _ _ (Oper.mk none (Op.store _ (.tmp 17) _) _ _ _ _ :: _) _ _)); refine wpList_storeE_st (o := ⟨none, .store _ (.tmp 17) _, _, _, _, _⟩) rfl _ _ _ rfl rfl (v := .int .i64 _) rfl HS tk sz_int 8 0 rfl (by first | rfl | (simp; done) | omega) hfl vcs rfx rfx HK.out (el := (((q : Int), x_Flow_SrcIp, x_Flow_DstIp, x_Flow_SrcPort, x_Flow_DstPort), x_Next, x_Data, x_Done)) (show ((i64ok ((q : Int)) ∧ i64ok (x_Flow_SrcIp) ∧ i64ok (x_Flow_DstIp) ∧ i64ok (x_Flow_SrcPort) ∧ i64ok (x_Flow_DstPort)) ∧ i64ok (x_Next) ∧ (x_Data).size ≤ maxLen ∧ True) from ⟨⟨MK0.out, HO1.out, HO2.out, HO3.out, HO4.out⟩, HO5.out, HO6.out, trivial⟩) rfx (by simp) ?_ rfl; clear HS; intro w4_6 hz4_6 HS)
        | ((with_reducible (show wpList _ _ _ (Oper.mk none (Op.store _ (.tmp 25) _) _ _ _ _ :: _) _ _)); refine wpList_storeE_st (o := ⟨none, .store _ (.tmp 25) _, _, _, _, _⟩) rfl _ _ _ rfl rfl (v := .int .i64 _) rfl HS tk sz_int 8 1 rfl (by first | rfl | (simp; done) | omega) (by (try simp only [List.length_set]); exact hfl) vcs rfx rfx (List.getElem?_set_self (by (try simp only [List.length_set]); exact hfl)) (el := (((q : Int), (q : Int) + 1, x_Flow_DstIp, x_Flow_SrcPort, x_Flow_DstPort), x_Next, x_Data, x_Done)) (show ((i64ok ((q : Int)) ∧ i64ok ((q : Int) + 1) ∧ i64ok (x_Flow_DstIp) ∧ i64ok (x_Flow_SrcPort) ∧ i64ok (x_Flow_DstPort)) ∧ i64ok (x_Next) ∧ (x_Data).size ≤ maxLen ∧ True) from ⟨⟨MK0.out, MK1.out, HO2.out, HO3.out, HO4.out⟩, HO5.out, HO6.out, trivial⟩) rfx (by simp) ?_ rfl; clear HS; intro w6_6 hz6_6 HS)
        | ((with_reducible (show wpList _ _ _ (Oper.mk none (Op.store _ (.tmp 33) _) _ _ _ _ :: _) _ _)); refine wpList_storeE_st (o := ⟨none, .store _ (.tmp 33) _, _, _, _, _⟩) rfl _ _ _ rfl rfl (v := .int .i64 _) rfl HS tk sz_int 8 2 rfl (by first | rfl | (simp; done) | omega) (by (try simp only [List.length_set]); exact hfl) vcs rfx rfx (List.getElem?_set_self (by (try simp only [List.length_set]); exact hfl)) (el := (((q : Int), (q : Int) + 1, (q : Int) + 2, x_Flow_SrcPort, x_Flow_DstPort), x_Next, x_Data, x_Done)) (show ((i64ok ((q : Int)) ∧ i64ok ((q : Int) + 1) ∧ i64ok ((q : Int) + 2) ∧ i64ok (x_Flow_SrcPort) ∧ i64ok (x_Flow_DstPort)) ∧ i64ok (x_Next) ∧ (x_Data).size ≤ maxLen ∧ True) from ⟨⟨MK0.out, MK1.out, MK2.out, HO3.out, HO4.out⟩, HO5.out, HO6.out, trivial⟩) rfx (by simp) ?_ rfl; clear HS; intro w8_6 hz8_6 HS)
        | ((with_reducible (show wpList _ _ _ (Oper.mk none (Op.store _ (.tmp 41) _) _ _ _ _ :: _) _ _)); refine wpList_storeE_st (o := ⟨none, .store _ (.tmp 41) _, _, _, _, _⟩) rfl _ _ _ rfl rfl (v := .int .i64 _) rfl HS tk sz_int 8 3 rfl (by first | rfl | (simp; done) | omega) (by (try simp only [List.length_set]); exact hfl) vcs rfx rfx (List.getElem?_set_self (by (try simp only [List.length_set]); exact hfl)) (el := (((q : Int), (q : Int) + 1, (q : Int) + 2, (q : Int) + 3, x_Flow_DstPort), x_Next, x_Data, x_Done)) (show ((i64ok ((q : Int)) ∧ i64ok ((q : Int) + 1) ∧ i64ok ((q : Int) + 2) ∧ i64ok ((q : Int) + 3) ∧ i64ok (x_Flow_DstPort)) ∧ i64ok (x_Next) ∧ (x_Data).size ≤ maxLen ∧ True) from ⟨⟨MK0.out, MK1.out, MK2.out, MK3.out, HO4.out⟩, HO5.out, HO6.out, trivial⟩) rfx (by simp) ?_ rfl; clear HS; intro w10_6 hz10_6 HS)
        | ((with_reducible (show wpList _ _ _ (Oper.mk none (Op.store _ (.tmp 49) _) _ _ _ _ :: _) _ _)); refine wpList_storeE_st (o := ⟨none, .store _ (.tmp 49) _, _, _, _, _⟩) rfl _ _ _ rfl rfl (v := .int .i64 _) rfl HS tk sz_int 8 4 rfl (by first | rfl | (simp; done) | omega) (by (try simp only [List.length_set]); exact hfl) vcs rfx rfx (List.getElem?_set_self (by (try simp only [List.length_set]); exact hfl)) (el := (((q : Int), (q : Int) + 1, (q : Int) + 2, (q : Int) + 3, (q : Int) + 4), x_Next, x_Data, x_Done)) (show ((i64ok ((q : Int)) ∧ i64ok ((q : Int) + 1) ∧ i64ok ((q : Int) + 2) ∧ i64ok ((q : Int) + 3) ∧ i64ok ((q : Int) + 4)) ∧ i64ok (x_Next) ∧ (x_Data).size ≤ maxLen ∧ True) from ⟨⟨MK0.out, MK1.out, MK2.out, MK3.out, MK4.out⟩, HO5.out, HO6.out, trivial⟩) rfx (by simp) ?_ rfl; clear HS; intro w12_6 hz12_6 HS)
        | ((with_reducible (show wpList _ _ _ (Oper.mk none (Op.store _ (.tmp 56) _) _ _ _ _ :: _) _ _)); refine wpList_storeE_st (o := ⟨none, .store _ (.tmp 56) _, _, _, _, _⟩) rfl _ _ _ rfl rfl (v := .int .i64 _) rfl HS tk sz_int 8 5 rfl (by first | rfl | (simp; done) | omega) (by (try simp only [List.length_set]); exact hfl) vcs rfx rfx (List.getElem?_set_self (by (try simp only [List.length_set]); exact hfl)) (el := (((q : Int), (q : Int) + 1, (q : Int) + 2, (q : Int) + 3, (q : Int) + 4), (q : Int) + 5, x_Data, x_Done)) (show ((i64ok ((q : Int)) ∧ i64ok ((q : Int) + 1) ∧ i64ok ((q : Int) + 2) ∧ i64ok ((q : Int) + 3) ∧ i64ok ((q : Int) + 4)) ∧ i64ok ((q : Int) + 5) ∧ (x_Data).size ≤ maxLen ∧ True) from ⟨⟨MK0.out, MK1.out, MK2.out, MK3.out, MK4.out⟩, MK5.out, HO6.out, trivial⟩) rfx (by simp) ?_ rfl; clear HS; intro w14_5 hz14_5 HS)
        | ((with_reducible (show wpList _ _ _ (Oper.mk none (Op.store _ (.tmp 64) _) _ _ _ _ :: _) _ _)); refine wpList_storeE_st (o := ⟨none, .store _ (.tmp 64) _, _, _, _, _⟩) rfl _ _ _ rfl rfl (v := .string _) rfl HS tk sz_string 8 6 rfl (by first | rfl | (simp; done) | omega) (by (try simp only [List.length_set]); exact hfl) vcs rfx rfx (List.getElem?_set_self (by (try simp only [List.length_set]); exact hfl)) (el := (((q : Int), (q : Int) + 1, (q : Int) + 2, (q : Int) + 3, (q : Int) + 4), (q : Int) + 5, mtext (q + 6), x_Done)) (show ((i64ok ((q : Int)) ∧ i64ok ((q : Int) + 1) ∧ i64ok ((q : Int) + 2) ∧ i64ok ((q : Int) + 3) ∧ i64ok ((q : Int) + 4)) ∧ i64ok ((q : Int) + 5) ∧ (mtext (q + 6)).size ≤ maxLen ∧ True) from ⟨⟨MK0.out, MK1.out, MK2.out, MK3.out, MK4.out⟩, MK5.out, MK6.out, trivial⟩) rfx (by simp) ?_ rfl; clear HS; intro w16_6 hz16_6 HS)
        | ((with_reducible (show wpList _ _ _ (Oper.mk none (Op.store _ (.tmp 73) _) _ _ _ _ :: _) _ _)); refine wpList_storeE_st (o := ⟨none, .store _ (.tmp 73) _, _, _, _, _⟩) rfl _ _ _ rfl rfl (v := .bool _) rfl HS tk sz_bool 8 7 rfl (by first | rfl | (simp; done) | omega) (by (try simp only [List.length_set]); exact hfl) vcs rfx rfx (List.getElem?_set_self (by (try simp only [List.length_set]); exact hfl)) (el := (((q : Int), (q : Int) + 1, (q : Int) + 2, (q : Int) + 3, (q : Int) + 4), (q : Int) + 5, mtext (q + 6), ((q : Int) + 7) % 3 == 0)) (show ((i64ok ((q : Int)) ∧ i64ok ((q : Int) + 1) ∧ i64ok ((q : Int) + 2) ∧ i64ok ((q : Int) + 3) ∧ i64ok ((q : Int) + 4)) ∧ i64ok ((q : Int) + 5) ∧ (mtext (q + 6)).size ≤ maxLen ∧ True) from ⟨⟨MK0.out, MK1.out, MK2.out, MK3.out, MK4.out⟩, MK5.out, MK6.out, trivial⟩) rfx (by simp) ?_ rfl; clear HS; intro w18_7 hz18_7 HS))
  go_loopw [1, 5] (fun kv i wr => ∃ k q : Nat, k ≤ l.length ∧ q = q0 + 8 * k ∧ kv = .int .i64 (q : Int) ∧ i = .int .i64 k ∧ St w0 wr (ownA (mklStream k q0 ++ l.drop k) [.slice A1 l.length c1] :: Js)) (fun _ i _ => l.length - (intOf i).toNat)
  case atStart => exact ⟨0, q0, Nat.zero_le _, rfl, rfl, rfl, by simpa [mklStream] using HS⟩
  case round =>
    clear HS
    obtain ⟨k, q, hkl, hq, rfl, rfl, HS⟩ := hrel
    have HQ := hid hq
    by_cases hlt : k < l.length
    case pos =>
      have hfl : k < (mklStream k q0 ++ l.drop k).length := by rw [List.length_append, mklStream_length, List.length_drop]; omega
      have HST := mklStream_step (l := l) (q := q0) hlt
      have hk9 := mklStream_at (l := l) (q := q0) hlt
      have hok := hokl.out _ (List.getElem_mem hlt)
      rw [← hq] at HST
      replace HST := hid HST
      have hqb : q ≤ 4611686018427385904 := by omega
      have hq1 : 0 < q := by omega
      clear hq
      generalize l[k] = x at *
      obtain ⟨⟨x_Flow_Kind, x_Flow_SrcIp, x_Flow_DstIp, x_Flow_SrcPort, x_Flow_DstPort⟩, x_Next, x_Data, x_Done⟩ := x
      have HK := hid hk9
      have HOKS : ((i64ok (x_Flow_Kind) ∧ i64ok (x_Flow_SrcIp) ∧ i64ok (x_Flow_DstIp) ∧ i64ok (x_Flow_SrcPort) ∧ i64ok (x_Flow_DstPort)) ∧ i64ok (x_Next) ∧ (x_Data).size ≤ maxLen ∧ True) := hok
      obtain ⟨⟨o0, o1, o2, o3, o4⟩, o5, o6, o7⟩ := HOKS
      have HO0 := hid o0
      have HO1 := hid o1
      have HO2 := hid o2
      have HO3 := hid o3
      have HO4 := hid o4
      have HO5 := hid o5
      have HO6 := hid o6
      have HO7 := hid o7
      have MK0 : Hid (i64ok ((q : Int))) := hid (by unfold i64ok; omega)
      have MK1 : Hid (i64ok ((q : Int) + 1)) := hid (by unfold i64ok; omega)
      have MK2 : Hid (i64ok ((q : Int) + 2)) := hid (by unfold i64ok; omega)
      have MK3 : Hid (i64ok ((q : Int) + 3)) := hid (by unfold i64ok; omega)
      have MK4 : Hid (i64ok ((q : Int) + 4)) := hid (by unfold i64ok; omega)
      have MK5 : Hid (i64ok ((q : Int) + 5)) := hid (by unfold i64ok; omega)
      have MK6 : Hid ((mtext (q + 6)).size ≤ maxLen) := hid (by have := mtext_size (q + 6); unfold maxLen; omega)
      have MK7 : Hid ((((q : Int) + 7) % 3 == 0) = (((q : Int) + 7) % 3 == 0)) := hid rfx
      clear hk9 hok o0 o1 o2 o3 o4 o5 o6 o7
      obtain ⟨b, off, cc, hv, -, -⟩ := ownA.addr HS (show Take _ (ownA (mklStream k q0 ++ l.drop k) [.slice A1 _ _]) _ from .head) (by omega)
      simp only [Value.slice.injEq] at hv
      obtain ⟨rfl, -, rfl⟩ := hv
      go_wp2_with (first
            | (go_at_call 142; (with_reducible refine (markText_i (q + 6) _ (by omega) (by omega) (by omega)).mono ?_); rintro e w' ⟨rfl, hx⟩; replace HS := HS.grow hx; clear hx)
            | ((with_reducible (show wpList _ _ _ (Oper.mk none (Op.store _ (.tmp 17) _) _ _ _ _ :: _) _ _)); refine wpList_storeE_st (o := ⟨none, .store _ (.tmp 17) _, _, _, _, _⟩) rfl _ _ _ rfl rfl (v := .int .i64 _) rfl HS tk sz_int 8 0 rfl (by first | rfl | (simp; done) | omega) hfl vcs rfx rfx HK.out (el := (((q : Int), x_Flow_SrcIp, x_Flow_DstIp, x_Flow_SrcPort, x_Flow_DstPort), x_Next, x_Data, x_Done)) (show ((i64ok ((q : Int)) ∧ i64ok (x_Flow_SrcIp) ∧ i64ok (x_Flow_DstIp) ∧ i64ok (x_Flow_SrcPort) ∧ i64ok (x_Flow_DstPort)) ∧ i64ok (x_Next) ∧ (x_Data).size ≤ maxLen ∧ True) from ⟨⟨MK0.out, HO1.out, HO2.out, HO3.out, HO4.out⟩, HO5.out, HO6.out, trivial⟩) rfx (by simp) ?_ rfl; clear HS; intro w4_6 hz4_6 HS)
            | ((with_reducible (show wpList _ _ _ (Oper.mk none (Op.store _ (.tmp 25) _) _ _ _ _ :: _) _ _)); refine wpList_storeE_st (o := ⟨none, .store _ (.tmp 25) _, _, _, _, _⟩) rfl _ _ _ rfl rfl (v := .int .i64 _) rfl HS tk sz_int 8 1 rfl (by first | rfl | (simp; done) | omega) (by (try simp only [List.length_set]); exact hfl) vcs rfx rfx (List.getElem?_set_self (by (try simp only [List.length_set]); exact hfl)) (el := (((q : Int), (q : Int) + 1, x_Flow_DstIp, x_Flow_SrcPort, x_Flow_DstPort), x_Next, x_Data, x_Done)) (show ((i64ok ((q : Int)) ∧ i64ok ((q : Int) + 1) ∧ i64ok (x_Flow_DstIp) ∧ i64ok (x_Flow_SrcPort) ∧ i64ok (x_Flow_DstPort)) ∧ i64ok (x_Next) ∧ (x_Data).size ≤ maxLen ∧ True) from ⟨⟨MK0.out, MK1.out, HO2.out, HO3.out, HO4.out⟩, HO5.out, HO6.out, trivial⟩) rfx (by simp) ?_ rfl; clear HS; intro w6_6 hz6_6 HS)
            | ((with_reducible (show wpList _ _ _ (Oper.mk none (Op.store _ (.tmp 33) _) _ _ _ _ :: _) _ _)); refine wpList_storeE_st (o := ⟨none, .store _ (.tmp 33) _, _, _, _, _⟩) rfl _ _ _ rfl rfl (v := .int .i64 _) rfl HS tk sz_int 8 2 rfl (by first | rfl | (simp; done) | omega) (by (try simp only [List.length_set]); exact hfl) vcs rfx rfx (List.getElem?_set_self (by (try simp only [List.length_set]); exact hfl)) (el := (((q : Int), (q : Int) + 1, (q : Int) + 2, x_Flow_SrcPort, x_Flow_DstPort), x_Next, x_Data, x_Done)) (show ((i64ok ((q : Int)) ∧ i64ok ((q : Int) + 1) ∧ i64ok ((q : Int) + 2) ∧ i64ok (x_Flow_SrcPort) ∧ i64ok (x_Flow_DstPort)) ∧ i64ok (x_Next) ∧ (x_Data).size ≤ maxLen ∧ True) from ⟨⟨MK0.out, MK1.out, MK2.out, HO3.out, HO4.out⟩, HO5.out, HO6.out, trivial⟩) rfx (by simp) ?_ rfl; clear HS; intro w8_6 hz8_6 HS)
            | ((with_reducible (show wpList _ _ _ (Oper.mk none (Op.store _ (.tmp 41) _) _ _ _ _ :: _) _ _)); refine wpList_storeE_st (o := ⟨none, .store _ (.tmp 41) _, _, _, _, _⟩) rfl _ _ _ rfl rfl (v := .int .i64 _) rfl HS tk sz_int 8 3 rfl (by first | rfl | (simp; done) | omega) (by (try simp only [List.length_set]); exact hfl) vcs rfx rfx (List.getElem?_set_self (by (try simp only [List.length_set]); exact hfl)) (el := (((q : Int), (q : Int) + 1, (q : Int) + 2, (q : Int) + 3, x_Flow_DstPort), x_Next, x_Data, x_Done)) (show ((i64ok ((q : Int)) ∧ i64ok ((q : Int) + 1) ∧ i64ok ((q : Int) + 2) ∧ i64ok ((q : Int) + 3) ∧ i64ok (x_Flow_DstPort)) ∧ i64ok (x_Next) ∧ (x_Data).size ≤ maxLen ∧ True) from ⟨⟨MK0.out, MK1.out, MK2.out, MK3.out, HO4.out⟩, HO5.out, HO6.out, trivial⟩) rfx (by simp) ?_ rfl; clear HS; intro w10_6 hz10_6 HS)
            | ((with_reducible (show wpList _ _ _ (Oper.mk none (Op.store _ (.tmp 49) _) _ _ _ _ :: _) _ _)); refine wpList_storeE_st (o := ⟨none, .store _ (.tmp 49) _, _, _, _, _⟩) rfl _ _ _ rfl rfl (v := .int .i64 _) rfl HS tk sz_int 8 4 rfl (by first | rfl | (simp; done) | omega) (by (try simp only [List.length_set]); exact hfl) vcs rfx rfx (List.getElem?_set_self (by (try simp only [List.length_set]); exact hfl)) (el := (((q : Int), (q : Int) + 1, (q : Int) + 2, (q : Int) + 3, (q : Int) + 4), x_Next, x_Data, x_Done)) (show ((i64ok ((q : Int)) ∧ i64ok ((q : Int) + 1) ∧ i64ok ((q : Int) + 2) ∧ i64ok ((q : Int) + 3) ∧ i64ok ((q : Int) + 4)) ∧ i64ok (x_Next) ∧ (x_Data).size ≤ maxLen ∧ True) from ⟨⟨MK0.out, MK1.out, MK2.out, MK3.out, MK4.out⟩, HO5.out, HO6.out, trivial⟩) rfx (by simp) ?_ rfl; clear HS; intro w12_6 hz12_6 HS)
            | ((with_reducible (show wpList _ _ _ (Oper.mk none (Op.store _ (.tmp 56) _) _ _ _ _ :: _) _ _)); refine wpList_storeE_st (o := ⟨none, .store _ (.tmp 56) _, _, _, _, _⟩) rfl _ _ _ rfl rfl (v := .int .i64 _) rfl HS tk sz_int 8 5 rfl (by first | rfl | (simp; done) | omega) (by (try simp only [List.length_set]); exact hfl) vcs rfx rfx (List.getElem?_set_self (by (try simp only [List.length_set]); exact hfl)) (el := (((q : Int), (q : Int) + 1, (q : Int) + 2, (q : Int) + 3, (q : Int) + 4), (q : Int) + 5, x_Data, x_Done)) (show ((i64ok ((q : Int)) ∧ i64ok ((q : Int) + 1) ∧ i64ok ((q : Int) + 2) ∧ i64ok ((q : Int) + 3) ∧ i64ok ((q : Int) + 4)) ∧ i64ok ((q : Int) + 5) ∧ (x_Data).size ≤ maxLen ∧ True) from ⟨⟨MK0.out, MK1.out, MK2.out, MK3.out, MK4.out⟩, MK5.out, HO6.out, trivial⟩) rfx (by simp) ?_ rfl; clear HS; intro w14_5 hz14_5 HS)
            | ((with_reducible (show wpList _ _ _ (Oper.mk none (Op.store _ (.tmp 64) _) _ _ _ _ :: _) _ _)); refine wpList_storeE_st (o := ⟨none, .store _ (.tmp 64) _, _, _, _, _⟩) rfl _ _ _ rfl rfl (v := .string _) rfl HS tk sz_string 8 6 rfl (by first | rfl | (simp; done) | omega) (by (try simp only [List.length_set]); exact hfl) vcs rfx rfx (List.getElem?_set_self (by (try simp only [List.length_set]); exact hfl)) (el := (((q : Int), (q : Int) + 1, (q : Int) + 2, (q : Int) + 3, (q : Int) + 4), (q : Int) + 5, mtext (q + 6), x_Done)) (show ((i64ok ((q : Int)) ∧ i64ok ((q : Int) + 1) ∧ i64ok ((q : Int) + 2) ∧ i64ok ((q : Int) + 3) ∧ i64ok ((q : Int) + 4)) ∧ i64ok ((q : Int) + 5) ∧ (mtext (q + 6)).size ≤ maxLen ∧ True) from ⟨⟨MK0.out, MK1.out, MK2.out, MK3.out, MK4.out⟩, MK5.out, MK6.out, trivial⟩) rfx (by simp) ?_ rfl; clear HS; intro w16_6 hz16_6 HS)
            | ((with_reducible (show wpList _ _ _ (Oper.mk none (Op.store _ (.tmp 73) _) _ _ _ _ :: _) _ _)); refine wpList_storeE_st (o := ⟨none, .store _ (.tmp 73) _, _, _, _, _⟩) rfl _ _ _ rfl rfl (v := .bool _) rfl HS tk sz_bool 8 7 rfl (by first | rfl | (simp; done) | omega) (by (try simp only [List.length_set]); exact hfl) vcs rfx rfx (List.getElem?_set_self (by (try simp only [List.length_set]); exact hfl)) (el := (((q : Int), (q : Int) + 1, (q : Int) + 2, (q : Int) + 3, (q : Int) + 4), (q : Int) + 5, mtext (q + 6), ((q : Int) + 7) % 3 == 0)) (show ((i64ok ((q : Int)) ∧ i64ok ((q : Int) + 1) ∧ i64ok ((q : Int) + 2) ∧ i64ok ((q : Int) + 3) ∧ i64ok ((q : Int) + 4)) ∧ i64ok ((q : Int) + 5) ∧ (mtext (q + 6)).size ≤ maxLen ∧ True) from ⟨⟨MK0.out, MK1.out, MK2.out, MK3.out, MK4.out⟩, MK5.out, MK6.out, trivial⟩) rfx (by simp) ?_ rfl; clear HS; intro w18_7 hz18_7 HS))
      simp only [List.set_set] at HS
      go_roundw
      case rel => exact ⟨k + 1, q + 8, hlt, by rw [HQ.out]; omega, by first | rfl | (congr 1; omega), by go_num, by rw [← HST.out]; exact HS⟩
      case measure => simp [intOf]; omega
    case neg =>
      obtain rfl : k = l.length := by omega
      subst hq
      rw [List.drop_length, List.append_nil] at HS
      go_wp2_with (first
            | ((with_reducible (show wpList _ _ _ (Oper.mk none (Op.store _ (.tmp 17) _) _ _ _ _ :: _) _ _)); refine wpList_storeE_st (o := ⟨none, .store _ (.tmp 17) _, _, _, _, _⟩) rfl _ _ _ rfl rfl (v := .int .i64 _) rfl HS tk sz_int 8 0 rfl (by first | rfl | (simp; done) | omega) hfl vcs rfx rfx HK.out (el := (((q : Int), x_Flow_SrcIp, x_Flow_DstIp, x_Flow_SrcPort, x_Flow_DstPort), x_Next, x_Data, x_Done)) (show ((i64ok ((q : Int)) ∧ i64ok (x_Flow_SrcIp) ∧ i64ok (x_Flow_DstIp) ∧ i64ok (x_Flow_SrcPort) ∧ i64ok (x_Flow_DstPort)) ∧ i64ok (x_Next) ∧ (x_Data).size ≤ maxLen ∧ True) from ⟨⟨MK0.out, HO1.out, HO2.out, HO3.out, HO4.out⟩, HO5.out, HO6.out, trivial⟩) rfx (by simp) ?_ rfl; clear HS; intro w4_6 hz4_6 HS)
            | ((with_reducible (show wpList _ _ _ (Oper.mk none (Op.store _ (.tmp 25) _) _ _ _ _ :: _) _ _)); refine wpList_storeE_st (o := ⟨none, .store _ (.tmp 25) _, _, _, _, _⟩) rfl _ _ _ rfl rfl (v := .int .i64 _) rfl HS tk sz_int 8 1 rfl (by first | rfl | (simp; done) | omega) (by (try simp only [List.length_set]); exact hfl) vcs rfx rfx (List.getElem?_set_self (by (try simp only [List.length_set]); exact hfl)) (el := (((q : Int), (q : Int) + 1, x_Flow_DstIp, x_Flow_SrcPort, x_Flow_DstPort), x_Next, x_Data, x_Done)) (show ((i64ok ((q : Int)) ∧ i64ok ((q : Int) + 1) ∧ i64ok (x_Flow_DstIp) ∧ i64ok (x_Flow_SrcPort) ∧ i64ok (x_Flow_DstPort)) ∧ i64ok (x_Next) ∧ (x_Data).size ≤ maxLen ∧ True) from ⟨⟨MK0.out, MK1.out, HO2.out, HO3.out, HO4.out⟩, HO5.out, HO6.out, trivial⟩) rfx (by simp) ?_ rfl; clear HS; intro w6_6 hz6_6 HS)
            | ((with_reducible (show wpList _ _ _ (Oper.mk none (Op.store _ (.tmp 33) _) _ _ _ _ :: _) _ _)); refine wpList_storeE_st (o := ⟨none, .store _ (.tmp 33) _, _, _, _, _⟩) rfl _ _ _ rfl rfl (v := .int .i64 _) rfl HS tk sz_int 8 2 rfl (by first | rfl | (simp; done) | omega) (by (try simp only [List.length_set]); exact hfl) vcs rfx rfx (List.getElem?_set_self (by (try simp only [List.length_set]); exact hfl)) (el := (((q : Int), (q : Int) + 1, (q : Int) + 2, x_Flow_SrcPort, x_Flow_DstPort), x_Next, x_Data, x_Done)) (show ((i64ok ((q : Int)) ∧ i64ok ((q : Int) + 1) ∧ i64ok ((q : Int) + 2) ∧ i64ok (x_Flow_SrcPort) ∧ i64ok (x_Flow_DstPort)) ∧ i64ok (x_Next) ∧ (x_Data).size ≤ maxLen ∧ True) from ⟨⟨MK0.out, MK1.out, MK2.out, HO3.out, HO4.out⟩, HO5.out, HO6.out, trivial⟩) rfx (by simp) ?_ rfl; clear HS; intro w8_6 hz8_6 HS)
            | ((with_reducible (show wpList _ _ _ (Oper.mk none (Op.store _ (.tmp 41) _) _ _ _ _ :: _) _ _)); refine wpList_storeE_st (o := ⟨none, .store _ (.tmp 41) _, _, _, _, _⟩) rfl _ _ _ rfl rfl (v := .int .i64 _) rfl HS tk sz_int 8 3 rfl (by first | rfl | (simp; done) | omega) (by (try simp only [List.length_set]); exact hfl) vcs rfx rfx (List.getElem?_set_self (by (try simp only [List.length_set]); exact hfl)) (el := (((q : Int), (q : Int) + 1, (q : Int) + 2, (q : Int) + 3, x_Flow_DstPort), x_Next, x_Data, x_Done)) (show ((i64ok ((q : Int)) ∧ i64ok ((q : Int) + 1) ∧ i64ok ((q : Int) + 2) ∧ i64ok ((q : Int) + 3) ∧ i64ok (x_Flow_DstPort)) ∧ i64ok (x_Next) ∧ (x_Data).size ≤ maxLen ∧ True) from ⟨⟨MK0.out, MK1.out, MK2.out, MK3.out, HO4.out⟩, HO5.out, HO6.out, trivial⟩) rfx (by simp) ?_ rfl; clear HS; intro w10_6 hz10_6 HS)
            | ((with_reducible (show wpList _ _ _ (Oper.mk none (Op.store _ (.tmp 49) _) _ _ _ _ :: _) _ _)); refine wpList_storeE_st (o := ⟨none, .store _ (.tmp 49) _, _, _, _, _⟩) rfl _ _ _ rfl rfl (v := .int .i64 _) rfl HS tk sz_int 8 4 rfl (by first | rfl | (simp; done) | omega) (by (try simp only [List.length_set]); exact hfl) vcs rfx rfx (List.getElem?_set_self (by (try simp only [List.length_set]); exact hfl)) (el := (((q : Int), (q : Int) + 1, (q : Int) + 2, (q : Int) + 3, (q : Int) + 4), x_Next, x_Data, x_Done)) (show ((i64ok ((q : Int)) ∧ i64ok ((q : Int) + 1) ∧ i64ok ((q : Int) + 2) ∧ i64ok ((q : Int) + 3) ∧ i64ok ((q : Int) + 4)) ∧ i64ok (x_Next) ∧ (x_Data).size ≤ maxLen ∧ True) from ⟨⟨MK0.out, MK1.out, MK2.out, MK3.out, MK4.out⟩, HO5.out, HO6.out, trivial⟩) rfx (by simp) ?_ rfl; clear HS; intro w12_6 hz12_6 HS)
            | ((with_reducible (show wpList _ _ _ (Oper.mk none (Op.store _ (.tmp 56) _) _ _ _ _ :: _) _ _)); refine wpList_storeE_st (o := ⟨none, .store _ (.tmp 56) _, _, _, _, _⟩) rfl _ _ _ rfl rfl (v := .int .i64 _) rfl HS tk sz_int 8 5 rfl (by first | rfl | (simp; done) | omega) (by (try simp only [List.length_set]); exact hfl) vcs rfx rfx (List.getElem?_set_self (by (try simp only [List.length_set]); exact hfl)) (el := (((q : Int), (q : Int) + 1, (q : Int) + 2, (q : Int) + 3, (q : Int) + 4), (q : Int) + 5, x_Data, x_Done)) (show ((i64ok ((q : Int)) ∧ i64ok ((q : Int) + 1) ∧ i64ok ((q : Int) + 2) ∧ i64ok ((q : Int) + 3) ∧ i64ok ((q : Int) + 4)) ∧ i64ok ((q : Int) + 5) ∧ (x_Data).size ≤ maxLen ∧ True) from ⟨⟨MK0.out, MK1.out, MK2.out, MK3.out, MK4.out⟩, MK5.out, HO6.out, trivial⟩) rfx (by simp) ?_ rfl; clear HS; intro w14_5 hz14_5 HS)
            | ((with_reducible (show wpList _ _ _ (Oper.mk none (Op.store _ (.tmp 64) _) _ _ _ _ :: _) _ _)); refine wpList_storeE_st (o := ⟨none, .store _ (.tmp 64) _, _, _, _, _⟩) rfl _ _ _ rfl rfl (v := .string _) rfl HS tk sz_string 8 6 rfl (by first | rfl | (simp; done) | omega) (by (try simp only [List.length_set]); exact hfl) vcs rfx rfx (List.getElem?_set_self (by (try simp only [List.length_set]); exact hfl)) (el := (((q : Int), (q : Int) + 1, (q : Int) + 2, (q : Int) + 3, (q : Int) + 4), (q : Int) + 5, mtext (q + 6), x_Done)) (show ((i64ok ((q : Int)) ∧ i64ok ((q : Int) + 1) ∧ i64ok ((q : Int) + 2) ∧ i64ok ((q : Int) + 3) ∧ i64ok ((q : Int) + 4)) ∧ i64ok ((q : Int) + 5) ∧ (mtext (q + 6)).size ≤ maxLen ∧ True) from ⟨⟨MK0.out, MK1.out, MK2.out, MK3.out, MK4.out⟩, MK5.out, MK6.out, trivial⟩) rfx (by simp) ?_ rfl; clear HS; intro w16_6 hz16_6 HS)
            | ((with_reducible (show wpList _ _ _ (Oper.mk none (Op.store _ (.tmp 73) _) _ _ _ _ :: _) _ _)); refine wpList_storeE_st (o := ⟨none, .store _ (.tmp 73) _, _, _, _, _⟩) rfl _ _ _ rfl rfl (v := .bool _) rfl HS tk sz_bool 8 7 rfl (by first | rfl | (simp; done) | omega) (by (try simp only [List.length_set]); exact hfl) vcs rfx rfx (List.getElem?_set_self (by (try simp only [List.length_set]); exact hfl)) (el := (((q : Int), (q : Int) + 1, (q : Int) + 2, (q : Int) + 3, (q : Int) + 4), (q : Int) + 5, mtext (q + 6), ((q : Int) + 7) % 3 == 0)) (show ((i64ok ((q : Int)) ∧ i64ok ((q : Int) + 1) ∧ i64ok ((q : Int) + 2) ∧ i64ok ((q : Int) + 3) ∧ i64ok ((q : Int) + 4)) ∧ i64ok ((q : Int) + 5) ∧ (mtext (q + 6)).size ≤ maxLen ∧ True) from ⟨⟨MK0.out, MK1.out, MK2.out, MK3.out, MK4.out⟩, MK5.out, MK6.out, trivial⟩) rfx (by simp) ?_ rfl; clear HS; intro w18_7 hz18_7 HS))
      go_ret
      exact ⟨rfl, HS⟩
set_option maxRecDepth 100000 in
set_option maxHeartbeats 4000000 in
theorem heldStreamS_any (v : Value) (n q0 : Nat) (w : World) (k1 : Holds w (mklStream n q0) [v]) (h0 : 0 < q0) (h1 : q0 + 8 * n ≤ 4611686018427384904) {k : Int} (hk : k = (q0 : Int)) :
    Calls Tryz.prog 53 #[v, .int .i64 k] w fun e w' => e = .returned (.int .i64 ((q0 + 8 * n : Nat) : Int)) ∧ Ex w w' := by
  subst hk
  obtain ⟨AA, cap, rfl, z1, z2⟩ := k1.fl
  unfold maxLen at z2
  rw [mklStream_length] at *
  have HS := St.start w
  go_enter Tryz.func53, Tryz.ntmps53
  go_wp2_with (first
        | ((with_reducible (show wpList _ _ _ (Oper.mk (some 17) (Op.load _ _) _ _ _ _ :: _) _ _)); refine wpList_loadHF (o := ⟨some 17, .load _ _, _, _, _, _⟩) rfl _ _ rfl rfl HS (fun _ hs => k1.ex hs.ex) HK.out 8 0 (by first | rfl | (simp; done) | omega) rfl (by decide) sc_int flt ?_)
        | ((with_reducible (show wpList _ _ _ (Oper.mk (some 27) (Op.load _ _) _ _ _ _ :: _) _ _)); refine wpList_loadHF (o := ⟨some 27, .load _ _, _, _, _, _⟩) rfl _ _ rfl rfl HS (fun _ hs => k1.ex hs.ex) HK.out 8 1 (by first | rfl | (simp; done) | omega) rfl (by decide) sc_int flt ?_)
        | ((with_reducible (show wpList _ _ _ (Oper.mk (some 37) (Op.load _ _) _ _ _ _ :: _) _ _)); refine wpList_loadHF (o := ⟨some 37, .load _ _, _, _, _, _⟩) rfl _ _ rfl rfl HS (fun _ hs => k1.ex hs.ex) HK.out 8 2 (by first | rfl | (simp; done) | omega) rfl (by decide) sc_int flt ?_)
        | ((with_reducible (show wpList _ _ _ (Oper.mk (some 47) (Op.load _ _) _ _ _ _ :: _) _ _)); refine wpList_loadHF (o := ⟨some 47, .load _ _, _, _, _, _⟩) rfl _ _ rfl rfl HS (fun _ hs => k1.ex hs.ex) HK.out 8 3 (by first | rfl | (simp; done) | omega) rfl (by decide) sc_int flt ?_)
        | ((with_reducible (show wpList _ _ _ (Oper.mk (some 57) (Op.load _ _) _ _ _ _ :: _) _ _)); refine wpList_loadHF (o := ⟨some 57, .load _ _, _, _, _, _⟩) rfl _ _ rfl rfl HS (fun _ hs => k1.ex hs.ex) HK.out 8 4 (by first | rfl | (simp; done) | omega) rfl (by decide) sc_int flt ?_)
        | ((with_reducible (show wpList _ _ _ (Oper.mk (some 66) (Op.load _ _) _ _ _ _ :: _) _ _)); refine wpList_loadHF (o := ⟨some 66, .load _ _, _, _, _, _⟩) rfl _ _ rfl rfl HS (fun _ hs => k1.ex hs.ex) HK.out 8 5 (by first | rfl | (simp; done) | omega) rfl (by decide) sc_int flt ?_)
        | ((with_reducible (show wpList _ _ _ (Oper.mk (some 85) (Op.load _ _) _ _ _ _ :: _) _ _)); refine wpList_loadHF (o := ⟨some 85, .load _ _, _, _, _, _⟩) rfl _ _ rfl rfl HS (fun _ hs => k1.ex hs.ex) HK.out 8 7 (by first | rfl | (simp; done) | omega) rfl (by decide) sc_bool flt ?_))
  go_loopw [1, 5] (fun kv i wr => ∃ k q : Nat, k ≤ n ∧ q = q0 + 8 * k ∧ kv = .int .i64 (q : Int) ∧ i = .int .i64 k ∧ St w wr []) (fun _ i _ => n - (intOf i).toNat)
  case atStart => exact ⟨0, q0, Nat.zero_le _, rfl, rfl, rfl, (HS.arr (by repeat (first | exact Arr.nil | (with_reducible exact take_all _) | (refine Arr.cons tk ?_) | (refine arr_skip ?_))))⟩
  case round =>
    clear HS
    obtain ⟨k, q, hkl, hq, rfl, rfl, HS⟩ := hrel
    have HQ := hid hq
    by_cases hlt : k < n
    case pos =>
      obtain ⟨b, off, rfl⟩ := k1.flA (by rw [mklStream_length]; omega)
      have hk9 := mklStream_get (n := n) (q := q0) hlt
      rw [← hq] at hk9
      have HK : Hid ((mklStream n q0)[k]? = some ((((q : Int), (q : Int) + 1, (q : Int) + 2, (q : Int) + 3, (q : Int) + 4), (q : Int) + 5, mtext (q + 6), ((q : Int) + 7) % 3 == 0) : DtStream)) := hid hk9
      clear hk9
      have hqb : q ≤ 4611686018427385904 := by omega
      have hq1 : 0 < q := by omega
      clear hq
      go_wp2_with (first
            | ((with_reducible (show wpList _ _ _ (Oper.mk (some 17) (Op.load _ _) _ _ _ _ :: _) _ _)); refine wpList_loadHF (o := ⟨some 17, .load _ _, _, _, _, _⟩) rfl _ _ rfl rfl HS (fun _ hs => k1.ex hs.ex) HK.out 8 0 (by first | rfl | (simp; done) | omega) rfl (by decide) sc_int flt ?_)
            | ((with_reducible (show wpList _ _ _ (Oper.mk (some 27) (Op.load _ _) _ _ _ _ :: _) _ _)); refine wpList_loadHF (o := ⟨some 27, .load _ _, _, _, _, _⟩) rfl _ _ rfl rfl HS (fun _ hs => k1.ex hs.ex) HK.out 8 1 (by first | rfl | (simp; done) | omega) rfl (by decide) sc_int flt ?_)
            | ((with_reducible (show wpList _ _ _ (Oper.mk (some 37) (Op.load _ _) _ _ _ _ :: _) _ _)); refine wpList_loadHF (o := ⟨some 37, .load _ _, _, _, _, _⟩) rfl _ _ rfl rfl HS (fun _ hs => k1.ex hs.ex) HK.out 8 2 (by first | rfl | (simp; done) | omega) rfl (by decide) sc_int flt ?_)
            | ((with_reducible (show wpList _ _ _ (Oper.mk (some 47) (Op.load _ _) _ _ _ _ :: _) _ _)); refine wpList_loadHF (o := ⟨some 47, .load _ _, _, _, _, _⟩) rfl _ _ rfl rfl HS (fun _ hs => k1.ex hs.ex) HK.out 8 3 (by first | rfl | (simp; done) | omega) rfl (by decide) sc_int flt ?_)
            | ((with_reducible (show wpList _ _ _ (Oper.mk (some 57) (Op.load _ _) _ _ _ _ :: _) _ _)); refine wpList_loadHF (o := ⟨some 57, .load _ _, _, _, _, _⟩) rfl _ _ rfl rfl HS (fun _ hs => k1.ex hs.ex) HK.out 8 4 (by first | rfl | (simp; done) | omega) rfl (by decide) sc_int flt ?_)
            | ((with_reducible (show wpList _ _ _ (Oper.mk (some 66) (Op.load _ _) _ _ _ _ :: _) _ _)); refine wpList_loadHF (o := ⟨some 66, .load _ _, _, _, _, _⟩) rfl _ _ rfl rfl HS (fun _ hs => k1.ex hs.ex) HK.out 8 5 (by first | rfl | (simp; done) | omega) rfl (by decide) sc_int flt ?_)
            | ((with_reducible (show wpList _ _ _ (Oper.mk (some 85) (Op.load _ _) _ _ _ _ :: _) _ _)); refine wpList_loadHF (o := ⟨some 85, .load _ _, _, _, _, _⟩) rfl _ _ rfl rfl HS (fun _ hs => k1.ex hs.ex) HK.out 8 7 (by first | rfl | (simp; done) | omega) rfl (by decide) sc_bool flt ?_))
      refine wp_region_plan_st HS (.early 0 (.early 1 (.early 2 (.early 3 (.early 4 (.forced 5 1 (.forced 6 1 (.forced 7 2 .done)))))))) (by kernel_rfl) (by as_aux_lemma => kernel_rfl) ?_
      intro hne
      replace HS := HS.drew
      try go_simp
      repeat' (first
        | (with_reducible refine wpPlan_forced ?_)
        | ((with_reducible (first | (show wpPlan _ _ _ _ (.early 0 _) _ _) | (show wpPlan _ _ _ _ (.early 1 _) _ _) | (show wpPlan _ _ _ _ (.early 2 _) _ _) | (show wpPlan _ _ _ _ (.early 3 _) _ _))); (first | (refine wpPlan_skipE rfl rfl ?_; (try go_simp)) | (refine wpPlan_early rfl rfl ?_; intro K hK; (first | go_big_quiet_op); (first | go_big_quiet_on | (refine ⟨_, fun _ => rfl, ?_⟩; go_big_quiet_on)))))
        | ((with_reducible ((show wpPlan _ _ _ _ (.early 4 _) _ _))); (first | (refine wpPlan_skipE rfl rfl ?_; (try go_simp)) | (refine wpPlan_early rfl rfl ?_; intro K hK; (first | ((refine quiet_loadHF  _ _ rfl rfl (fun _ hs => k1.ex hs.ex) HK.out 8 6 (by first | rfl | (simp; done) | omega) rfl (by decide) sc_string flt ?_); (try go_simp)) | go_big_quiet_op); (first | go_big_quiet_on | (refine ⟨_, fun _ => rfl, ?_⟩; go_big_quiet_on)))))
        | ((with_reducible ((show wpOne _ _ _ _ 5 1 _ _ _))); (first | (refine wpOne_skip rfl rfl ?_; (try go_simp)) | (refine wpOne_1 rfl rfl ?_; intro K hK; go_simp; refine hK _ _ ?_ ?_; (focus (exact stw HS)); clear hK K)))
        | ((with_reducible ((show wpOne _ _ _ _ 6 1 _ _ _))); (first | (refine wpOne_skip rfl rfl ?_; (try go_simp)) | (refine wpOne_1 rfl rfl ?_; intro K hK; go_simp; (first | (go_at_call 142; (with_reducible refine (markText_i (q + 6) _ (by omega) (by omega) (by omega)).mono ?_); rintro e w' ⟨rfl, hx⟩; replace HS := HS.grow hx; clear hx)); (try go_simp); refine hK _ _ ?_ ?_; (focus (exact stw HS)); clear hK K)))
        | ((with_reducible ((show wpOne _ _ _ _ 7 2 _ _ _))); (first | (refine wpOne_skip rfl rfl ?_; (try go_simp)) | (refine wpOne_2 rfl rfl ?_; intro K hK; go_simp; refine hK _ _ ?_; clear hK K)))
        | (with_reducible refine wpPlan_done ?_))
      go_wp2_with (first
            | (go_at_call 142; (with_reducible refine (markText_i (q + 6) _ (by omega) (by omega) (by omega)).mono ?_); rintro e w' ⟨rfl, hx⟩; replace HS := HS.grow hx; clear hx)
            | ((with_reducible (show wpList _ _ _ (Oper.mk (some 17) (Op.load _ _) _ _ _ _ :: _) _ _)); refine wpList_loadHF (o := ⟨some 17, .load _ _, _, _, _, _⟩) rfl _ _ rfl rfl HS (fun _ hs => k1.ex hs.ex) HK.out 8 0 (by first | rfl | (simp; done) | omega) rfl (by decide) sc_int flt ?_)
            | ((with_reducible (show wpList _ _ _ (Oper.mk (some 27) (Op.load _ _) _ _ _ _ :: _) _ _)); refine wpList_loadHF (o := ⟨some 27, .load _ _, _, _, _, _⟩) rfl _ _ rfl rfl HS (fun _ hs => k1.ex hs.ex) HK.out 8 1 (by first | rfl | (simp; done) | omega) rfl (by decide) sc_int flt ?_)
            | ((with_reducible (show wpList _ _ _ (Oper.mk (some 37) (Op.load _ _) _ _ _ _ :: _) _ _)); refine wpList_loadHF (o := ⟨some 37, .load _ _, _, _, _, _⟩) rfl _ _ rfl rfl HS (fun _ hs => k1.ex hs.ex) HK.out 8 2 (by first | rfl | (simp; done) | omega) rfl (by decide) sc_int flt ?_)
            | ((with_reducible (show wpList _ _ _ (Oper.mk (some 47) (Op.load _ _) _ _ _ _ :: _) _ _)); refine wpList_loadHF (o := ⟨some 47, .load _ _, _, _, _, _⟩) rfl _ _ rfl rfl HS (fun _ hs => k1.ex hs.ex) HK.out 8 3 (by first | rfl | (simp; done) | omega) rfl (by decide) sc_int flt ?_)
            | ((with_reducible (show wpList _ _ _ (Oper.mk (some 57) (Op.load _ _) _ _ _ _ :: _) _ _)); refine wpList_loadHF (o := ⟨some 57, .load _ _, _, _, _, _⟩) rfl _ _ rfl rfl HS (fun _ hs => k1.ex hs.ex) HK.out 8 4 (by first | rfl | (simp; done) | omega) rfl (by decide) sc_int flt ?_)
            | ((with_reducible (show wpList _ _ _ (Oper.mk (some 66) (Op.load _ _) _ _ _ _ :: _) _ _)); refine wpList_loadHF (o := ⟨some 66, .load _ _, _, _, _, _⟩) rfl _ _ rfl rfl HS (fun _ hs => k1.ex hs.ex) HK.out 8 5 (by first | rfl | (simp; done) | omega) rfl (by decide) sc_int flt ?_)
            | ((with_reducible (show wpList _ _ _ (Oper.mk (some 85) (Op.load _ _) _ _ _ _ :: _) _ _)); refine wpList_loadHF (o := ⟨some 85, .load _ _, _, _, _, _⟩) rfl _ _ rfl rfl HS (fun _ hs => k1.ex hs.ex) HK.out 8 7 (by first | rfl | (simp; done) | omega) rfl (by decide) sc_bool flt ?_))
      all_goals first | (exfalso; rename_i hbz; rw [show (q : Int) + 1 + 1 + 1 + 1 + 1 + 1 + 1 = (q : Int) + 7 from by omega] at hbz; simp at hbz; done) | skip
      go_roundw
      case rel => exact ⟨k + 1, q + 8, hlt, by rw [HQ.out]; omega, by first | rfl | (congr 1; omega), by go_num, (HS.arr (by repeat (first | exact Arr.nil | (with_reducible exact take_all _) | (refine Arr.cons tk ?_) | (refine arr_skip ?_))))⟩
      case measure => simp [intOf]; omega
    case neg =>
      obtain rfl : k = n := by omega
      subst hq
      go_wp2_with (first
            | ((with_reducible (show wpList _ _ _ (Oper.mk (some 17) (Op.load _ _) _ _ _ _ :: _) _ _)); refine wpList_loadHF (o := ⟨some 17, .load _ _, _, _, _, _⟩) rfl _ _ rfl rfl HS (fun _ hs => k1.ex hs.ex) HK.out 8 0 (by first | rfl | (simp; done) | omega) rfl (by decide) sc_int flt ?_)
            | ((with_reducible (show wpList _ _ _ (Oper.mk (some 27) (Op.load _ _) _ _ _ _ :: _) _ _)); refine wpList_loadHF (o := ⟨some 27, .load _ _, _, _, _, _⟩) rfl _ _ rfl rfl HS (fun _ hs => k1.ex hs.ex) HK.out 8 1 (by first | rfl | (simp; done) | omega) rfl (by decide) sc_int flt ?_)
            | ((with_reducible (show wpList _ _ _ (Oper.mk (some 37) (Op.load _ _) _ _ _ _ :: _) _ _)); refine wpList_loadHF (o := ⟨some 37, .load _ _, _, _, _, _⟩) rfl _ _ rfl rfl HS (fun _ hs => k1.ex hs.ex) HK.out 8 2 (by first | rfl | (simp; done) | omega) rfl (by decide) sc_int flt ?_)
            | ((with_reducible (show wpList _ _ _ (Oper.mk (some 47) (Op.load _ _) _ _ _ _ :: _) _ _)); refine wpList_loadHF (o := ⟨some 47, .load _ _, _, _, _, _⟩) rfl _ _ rfl rfl HS (fun _ hs => k1.ex hs.ex) HK.out 8 3 (by first | rfl | (simp; done) | omega) rfl (by decide) sc_int flt ?_)
            | ((with_reducible (show wpList _ _ _ (Oper.mk (some 57) (Op.load _ _) _ _ _ _ :: _) _ _)); refine wpList_loadHF (o := ⟨some 57, .load _ _, _, _, _, _⟩) rfl _ _ rfl rfl HS (fun _ hs => k1.ex hs.ex) HK.out 8 4 (by first | rfl | (simp; done) | omega) rfl (by decide) sc_int flt ?_)
            | ((with_reducible (show wpList _ _ _ (Oper.mk (some 66) (Op.load _ _) _ _ _ _ :: _) _ _)); refine wpList_loadHF (o := ⟨some 66, .load _ _, _, _, _, _⟩) rfl _ _ rfl rfl HS (fun _ hs => k1.ex hs.ex) HK.out 8 5 (by first | rfl | (simp; done) | omega) rfl (by decide) sc_int flt ?_)
            | ((with_reducible (show wpList _ _ _ (Oper.mk (some 85) (Op.load _ _) _ _ _ _ :: _) _ _)); refine wpList_loadHF (o := ⟨some 85, .load _ _, _, _, _, _⟩) rfl _ _ rfl rfl HS (fun _ hs => k1.ex hs.ex) HK.out 8 7 (by first | rfl | (simp; done) | omega) rfl (by decide) sc_bool flt ?_))
      go_ret
      exact ⟨rfl, HS.ex⟩
set_option maxHeartbeats 400000 in
theorem toIntS_any (v : Value) (xs : List Int) (w : World) (h : Holds w xs [v]) (hl : xs.length ≤ 1099511627776) :
    Calls Tryz.prog 127 #[v] w (RetSl w xs) := by
  obtain ⟨a, cap, hv, h1, h2, h3, h4⟩ := h.ints
  simp only [List.cons.injEq, and_true] at hv
  subst hv
  have hmk := fun kl kc => run_make_row' (P := Tryz.prog) 30 3 (.int .i64 0) 8 Tryz.underlying30 (by kernel_rfl) rfl kl kc xs.length (by omega) (by omega)
  go_enter Tryz.func127, Tryz.ntmps127
  go_wp2
  have h0 : ((w.alloc (.cells (madeCells #[.int .i64 0] xs.length) 3)).heap[w.heap.size]? = some (.cells (madeCells #[.int .i64 0] xs.length) 3 (0, 0))) := row_alloc _ _
  go_loopw [4] (fun i wr => ∃ k : Nat, k ≤ xs.length ∧ i = .int .i64 k ∧ Ex w wr ∧ ∃ C, wr.heap[w.heap.size]? = some (.cells C 3 (0, 0)) ∧ C.size = xs.length ∧ ∀ j (hj : j < xs.length), j < k → C[j]? = some (.int .i64 (xs[j]'hj))) (fun i _ => xs.length - (intOf i).toNat)
  case atStart => exact ⟨0, Nat.zero_le _, rfl, (Ex.refl _).alloc _, _, h0, size_madeCells _ _, fun j _ hj => by omega⟩
  case round =>
    obtain ⟨k, hk, rfl, hx, C, hB, hs, hC⟩ := hrel
    by_cases hlt : k < xs.length
    · obtain ⟨b, off, rfl, hc⟩ := h3 k hlt
      have hc' := (hx.cell (World.block_lt_of_cell? _ _ hc)).trans hc
      have hst : wr.cell? ⟨w.heap.size, k, none⟩ = some (C[k]'(by omega)) := by rw [cell_row hB]; simp
      have hfz : wr.frozen? ⟨w.heap.size, k, none⟩ = false := frozen_row hB k
      have HX := hid hx
      have HB := hid hB
      have HC := hid hC
      clear hx hB hC h3 h0 hmk h4
      go_wp2
      go_roundw
      case rel =>
        refine ⟨k + 1, by omega, by go_num, HX.out.setCell (Nat.le_refl _) _, _, row_setCell HB.out _ _, by simpa using hs, fun j hj hjk => ?_⟩
        by_cases e : j = k
        · subst e; rw [Array.getElem?_setIfInBounds]; simp; omega
        · rw [Array.getElem?_setIfInBounds, if_neg (fun h => e h.symm)]; exact HC.out j hj (by omega)
      case measure => simp [intOf]; omega
    · go_wp2
      go_ret
      obtain rfl : k = xs.length := by omega
      exact ⟨_, _, rfl, owns_ints hB (Nat.le_refl _) (Nat.le_refl _) (by omega) (by omega) (fun j hj => hC j hj hj) h4, hx⟩
set_option maxHeartbeats 400000 in
theorem eqIntS_same (v1 v2 : Value) (xs : List Int) (w : World) (k1 : Holds w xs [v1]) (k2 : Holds w xs [v2]) :
    Calls Tryz.prog 139 #[v1, v2] w fun e w' => e = .returned (.bool true) ∧ Ex w w' := by
  obtain ⟨a, cap, hv, h1, h2, h3, h4⟩ := k1.ints
  obtain ⟨a', cap', hv', h1', h2', h3', _⟩ := k2.ints
  simp only [List.cons.injEq, and_true] at hv hv'
  subst hv hv'
  unfold maxLen at h2
  clear k1 k2
  go_enter Tryz.func139, Tryz.ntmps139
  go_wp2
  go_loopw [5] (fun i wr => ∃ k : Nat, k ≤ xs.length ∧ i = .int .i64 k ∧ Ex w wr) (fun i _ => xs.length - (intOf i).toNat)
  case atStart => exact ⟨0, Nat.zero_le _, rfl, Ex.refl _⟩
  case round =>
    obtain ⟨k, hk, rfl, hx⟩ := hrel
    by_cases hlt : k < xs.length
    · obtain ⟨b, off, rfl, hc⟩ := h3 k hlt
      obtain ⟨b', off', rfl, hc'⟩ := h3' k hlt
      have c1 := (hx.cell (World.block_lt_of_cell? _ _ hc)).trans hc
      have c2 := (hx.cell (World.block_lt_of_cell? _ _ hc')).trans hc'
      have HX := hid hx
      clear hx h3 h3' h4 hc hc'
      go_wp2
      refine wp_region_ext (by kernel_rfl) (by kernel_rfl) ?_
      obtain ⟨l1, l2⟩ := (⟨World.block_lt_of_cell? _ _ c1, World.block_lt_of_cell? _ _ c2⟩ : b < wr.heap.size ∧ b' < wr.heap.size)
      repeat (go_big_quiet_step (fail))
      refine wpQuiet_nil ?_
      intro g
      go_wp2
      go_roundw
      case rel => exact ⟨k + 1, by omega, by go_num, HX.out.plus _⟩
      case measure => simp [intOf]; omega
    · go_wp2
      go_ret
      exact ⟨rfl, hx⟩
set_option maxHeartbeats 400000 in
theorem szIntS_le (v : Value) (xs : List Int) (l : Int) (w : World) (k1 : Holds w xs [v]) (hl : l ≤ 1048576) (h : (xs.length : Int) ≤ l) :
    Calls Tryz.prog 114 #[v, .int .i64 l] w fun e w' => e = .returned (.int .i64 (l - xs.length)) ∧ w = w' := by
  obtain ⟨a, cap, hv, h1, h2, h3, h4⟩ := k1.ints
  simp only [List.cons.injEq, and_true] at hv
  subst hv
  unfold maxLen at h2
  clear k1 h3 h4
  go_enter Tryz.func114, Tryz.ntmps114
  go_wp2
  go_ret
  exact ⟨rfl, rfl⟩
set_option maxHeartbeats 400000 in
theorem szIntS_gt (v : Value) (xs : List Int) (l : Int) (w : World) (k1 : Holds w xs [v]) (h0 : 0 ≤ l) (hl : l ≤ 1048576) (h : l < (xs.length : Int)) :
    Calls Tryz.prog 114 #[v, .int .i64 l] w fun e w' => e = .returned (.int .i64 (-1)) ∧ w = w' := by
  obtain ⟨a, cap, hv, h1, h2, h3, h4⟩ := k1.ints
  simp only [List.cons.injEq, and_true] at hv
  subst hv
  unfold maxLen at h2
  clear k1 h3 h4
  go_enter Tryz.func114, Tryz.ntmps114
  go_wp2
  go_ret
  exact ⟨rfl, rfl⟩
def RetPool (w : World) (b z c : Int) (fr : List Int) (e : Ending) (w' : World) : Prop := ∃ A k, e = .returned (.agg #[.int .i64 b, .int .i64 z, .int .i64 c, .slice A fr.length k]) ∧ Owns w.heap.size w' fr [.slice A fr.length k] ∧ Ex w w'
theorem retPool {w0 w : World} {Is Js : List Asn} {b z c : Int} {fr : List Int} {v : Value} (h : St w0 w Is) (t : Take Is (ownA fr [v]) Js) : RetPool w0 b z c fr (.returned (.agg #[.int .i64 b, .int .i64 z, .int .i64 c, v])) w := by
  obtain ⟨a, k, rfl⟩ := ownA.form h t
  exact ⟨a, k, rfl, h.owns t, h.ex⟩
set_option maxHeartbeats 1000000 in
theorem heldIntS_any (v : Value) (n : Nat) (k : Int) (w : World) (k1 : Holds w (marks n k) [v]) (h0 : 0 ≤ k) (h1 : k + n ≤ 4611686018427387904) :
    Calls Tryz.prog 143 #[v, .int .i64 k] w fun e w' => e = .returned (.int .i64 (k + n)) ∧ w = w' := by
  obtain ⟨a, cap, hv, m1, m2, m3, _⟩ := k1.ints
  simp only [List.cons.injEq, and_true] at hv
  subst hv
  rw [marks_length] at m1 ⊢
  unfold maxLen at m2
  clear k1
  go_enter Tryz.func143, Tryz.ntmps143
  go_wp2
  go_loop [1, 5] (fun q i => ∃ j : Nat, j ≤ n ∧ q = .int .i64 (k + j) ∧ i = .int .i64 j) (fun _ i => n - (intOf i).toNat)
  case atStart => exact ⟨0, Nat.zero_le _, by simp, rfl⟩
  case round =>
    obtain ⟨j, hj, rfl, rfl⟩ := hrel
    by_cases hlt : j < n
    · obtain ⟨b, off, rfl, hc⟩ := m3 j (by rw [marks_length]; exact hlt)
      rw [marks_get] at hc
      clear m3
      go_wp2
      go_round
      case rel => exact ⟨j + 1, by omega, by go_num, by go_num⟩
      case measure => simp [intOf]; omega
    · obtain rfl : j = n := by omega
      clear m3
      go_wp2
      go_ret
      exact ⟨rfl, rfl⟩
set_option maxRecDepth 100000 in
set_option maxHeartbeats 4000000 in
theorem szPool_le (v : Value) (fr : List Int) (b z c : Int) (left : Int) (w : World) (k1 : Holds w fr [v]) (hl : left ≤ 1048576) (hs : (fr.length : Int) ≤ left) :
    Calls Tryz.prog 40 #[.agg #[.int .i64 b, .int .i64 z, .int .i64 c, v], .int .i64 left] w fun e w' => e = .returned (.int .i64 (left - (fr.length : Int))) ∧ Ex w w' := by
  obtain ⟨AA, cap, rfl, z1, z2⟩ := k1.fl
  unfold maxLen at z2
  have HS := St.start w
  go_enter Tryz.func40, Tryz.ntmps40
  go_wp2_with (first
        | (go_at_call 114; (with_reducible refine (szIntS_le _ fr left _ (k1.ex HS.ex) hl hs).mono ?_); rintro e w' ⟨rfl, rfl⟩)
        | ((with_reducible (show wpList _ _ _ (Oper.mk (some 2) (Op.box _ _) _ _ _ _ :: _) _ _)); refine wpList_box_st (o := ⟨some 2, .box _ _, _, _, _, _⟩) rfl _ _ rfl (v := .agg (List.toArray _)) rfl HS ?_; clear HS; intro w2 b2 hb2 HS; simp only [Value.cells] at HS)
        | ((with_reducible (show wpList _ _ _ (Oper.mk (some 2) (Op.box _ _) _ _ _ _ :: _) _ _)); refine wpList_box_st (o := ⟨some 2, .box _ _, _, _, _, _⟩) rfl _ _ rfl (v := .agg _) rfl HS ?_; clear HS; intro w2 b2 hb2 HS; simp only [Value.cells] at HS)
        | ((with_reducible (show wpList _ _ _ (Oper.mk (some 6) (Op.load _ _) _ _ _ _ :: _) _ _)); refine wpList_loadS_st (o := ⟨some 6, .load _ _, _, _, _, _⟩) rfl _ _ rfl rfl HS tk sc_Sint rfx ?_))
  go_ret
  exact ⟨rfl, HS.ex⟩
set_option maxRecDepth 100000 in
set_option maxHeartbeats 4000000 in
theorem szPool_gt (v : Value) (fr : List Int) (b z c : Int) (left : Int) (w : World) (k1 : Holds w fr [v]) (hl : left ≤ 1048576) (h0 : 0 ≤ left) (hs : left < (fr.length : Int)) :
    Calls Tryz.prog 40 #[.agg #[.int .i64 b, .int .i64 z, .int .i64 c, v], .int .i64 left] w fun e w' => e = .returned (.int .i64 (-1)) ∧ Ex w w' := by
  obtain ⟨AA, cap, rfl, z1, z2⟩ := k1.fl
  unfold maxLen at z2
  have HS := St.start w
  go_enter Tryz.func40, Tryz.ntmps40
  go_wp2_with (first
        | (go_at_call 114; (with_reducible refine (szIntS_gt _ fr left _ (k1.ex HS.ex) h0 hl hs).mono ?_); rintro e w' ⟨rfl, rfl⟩)
        | ((with_reducible (show wpList _ _ _ (Oper.mk (some 2) (Op.box _ _) _ _ _ _ :: _) _ _)); refine wpList_box_st (o := ⟨some 2, .box _ _, _, _, _, _⟩) rfl _ _ rfl (v := .agg (List.toArray _)) rfl HS ?_; clear HS; intro w2 b2 hb2 HS; simp only [Value.cells] at HS)
        | ((with_reducible (show wpList _ _ _ (Oper.mk (some 2) (Op.box _ _) _ _ _ _ :: _) _ _)); refine wpList_box_st (o := ⟨some 2, .box _ _, _, _, _, _⟩) rfl _ _ rfl (v := .agg _) rfl HS ?_; clear HS; intro w2 b2 hb2 HS; simp only [Value.cells] at HS)
        | ((with_reducible (show wpList _ _ _ (Oper.mk (some 6) (Op.load _ _) _ _ _ _ :: _) _ _)); refine wpList_loadS_st (o := ⟨some 6, .load _ _, _, _, _, _⟩) rfl _ _ rfl rfl HS tk sc_Sint rfx ?_))
  go_ret
  exact ⟨rfl, HS.ex⟩
set_option maxRecDepth 100000 in
set_option maxHeartbeats 4000000 in
theorem toPool_any (v : Value) (fr : List Int) (b z c : Int) (w : World) (k1 : Holds w fr [v]) (hl : fr.length ≤ 1099511627776) :
    Calls Tryz.prog 44 #[.agg #[.int .i64 b, .int .i64 z, .int .i64 c, v]] w (RetPool w b z c fr) := by
  obtain ⟨AA, cap, rfl, z1, z2⟩ := k1.fl
  unfold maxLen at z2
  have HS := St.start w
  go_enter Tryz.func44, Tryz.ntmps44
  go_wp2_with (first
        | (go_at_call 127; (with_reducible refine (toIntS_any _ fr _ (k1.ex HS.ex) hl).mono ?_); rintro e w' ⟨A5, c5, rfl, ho, hx⟩; replace HS := HS.own ho hx; clear ho hx)
        | ((with_reducible (show wpList _ _ _ (Oper.mk (some 1) (Op.box _ _) _ _ _ _ :: _) _ _)); refine wpList_box_st (o := ⟨some 1, .box _ _, _, _, _, _⟩) rfl _ _ rfl (v := .agg (List.toArray _)) rfl HS ?_; clear HS; intro w1 b1 hb1 HS; simp only [Value.cells] at HS)
        | ((with_reducible (show wpList _ _ _ (Oper.mk (some 1) (Op.box _ _) _ _ _ _ :: _) _ _)); refine wpList_box_st (o := ⟨some 1, .box _ _, _, _, _, _⟩) rfl _ _ rfl (v := .agg _) rfl HS ?_; clear HS; intro w1 b1 hb1 HS; simp only [Value.cells] at HS)
        | ((with_reducible (show wpList _ _ _ (Oper.mk (some 2) (Op.alloc _) _ _ _ _ :: _) _ _)); refine wpList_alloc_st (o := ⟨some 2, .alloc _, _, _, _, _⟩) rfl _ rfl zc_impl_Pool HS ?_; clear HS; intro w2 b2 hb2 HS)
        | ((with_reducible (show wpList _ _ _ (Oper.mk (some 3) (Op.alloc _) _ _ _ _ :: _) _ _)); refine wpList_alloc_st (o := ⟨some 3, .alloc _, _, _, _, _⟩) rfl _ rfl zc_impl_Pool HS ?_; clear HS; intro w3 b3 hb3 HS)
        | ((with_reducible (show wpList _ _ _ (Oper.mk (some 5) (Op.load _ _) _ _ _ _ :: _) _ _)); refine wpList_loadS_st (o := ⟨some 5, .load _ _, _, _, _, _⟩) rfl _ _ rfl rfl HS tk sc_int rfx ?_)
        | ((with_reducible (show wpList _ _ _ (Oper.mk none (Op.store _ (.tmp 6) _) _ _ _ _ :: _) _ _)); refine wpList_store_st (o := ⟨none, .store _ (.tmp 6) _, _, _, _, _⟩) rfl _ _ _ rfl rfl (v := .int .i64 _) rfl HS tk sz_int vcs rfx rfx (by simp) ?_ rfl; clear HS; intro w2_3 hz2_3 HS; simp only [nicL, Value.cells, List.append_nil] at HS)
        | ((with_reducible (show wpList _ _ _ (Oper.mk (some 8) (Op.load _ _) _ _ _ _ :: _) _ _)); refine wpList_loadS_st (o := ⟨some 8, .load _ _, _, _, _, _⟩) rfl _ _ rfl rfl HS tk sc_int rfx ?_)
        | ((with_reducible (show wpList _ _ _ (Oper.mk none (Op.store _ (.tmp 9) _) _ _ _ _ :: _) _ _)); refine wpList_store_st (o := ⟨none, .store _ (.tmp 9) _, _, _, _, _⟩) rfl _ _ _ rfl rfl (v := .int .i64 _) rfl HS tk sz_int vcs rfx rfx (by simp) ?_ rfl; clear HS; intro w3_3 hz3_3 HS; simp only [nicL, Value.cells, List.append_nil] at HS)
        | ((with_reducible (show wpList _ _ _ (Oper.mk (some 11) (Op.load _ _) _ _ _ _ :: _) _ _)); refine wpList_loadS_st (o := ⟨some 11, .load _ _, _, _, _, _⟩) rfl _ _ rfl rfl HS tk sc_int rfx ?_)
        | ((with_reducible (show wpList _ _ _ (Oper.mk none (Op.store _ (.tmp 12) _) _ _ _ _ :: _) _ _)); refine wpList_store_st (o := ⟨none, .store _ (.tmp 12) _, _, _, _, _⟩) rfl _ _ _ rfl rfl (v := .int .i64 _) rfl HS tk sz_int vcs rfx rfx (by simp) ?_ rfl; clear HS; intro w4_3 hz4_3 HS; simp only [nicL, Value.cells, List.append_nil] at HS)
        | ((with_reducible (show wpList _ _ _ (Oper.mk (some 14) (Op.load _ _) _ _ _ _ :: _) _ _)); refine wpList_loadS_st (o := ⟨some 14, .load _ _, _, _, _, _⟩) rfl _ _ rfl rfl HS tk sc_Sint rfx ?_)
        | ((with_reducible (show wpList _ _ _ (Oper.mk none (Op.store _ (.tmp 16) _) _ _ _ _ :: _) _ _)); refine wpList_store_st (o := ⟨none, .store _ (.tmp 16) _, _, _, _, _⟩) rfl _ _ _ rfl rfl (v := .slice _ _ _) rfl HS tk sz_Sint vcs rfx rfx (by simp) ?_ rfl; clear HS; intro w5_4 hz5_4 HS; simp only [nicL, Value.cells, List.append_nil] at HS)
        | ((with_reducible (show wpList _ _ _ (Oper.mk (some 17) (Op.load _ _) _ _ _ _ :: _) _ _)); refine wpList_loadA_st (o := ⟨some 17, .load _ _, _, _, _, _⟩) rfl _ _ rfl rfl HS tk ag_impl_Pool lit rfl ?_)
        | ((with_reducible (show wpList _ _ _ (Oper.mk none (Op.store _ (.tmp 2) _) _ _ _ _ :: _) _ _)); refine wpList_store_st (o := ⟨none, .store _ (.tmp 2) _, _, _, _, _⟩) rfl _ _ _ rfl rfl (v := .agg (List.toArray _)) rfl HS tk sz_impl_Pool vcs rfx rfx (by simp) ?_ rfl; clear HS; intro w6_1 hz6_1 HS; simp only [nicL, Value.cells, List.append_nil] at HS)
        | ((with_reducible (show wpList _ _ _ (Oper.mk none (Op.store _ (.tmp 2) _) _ _ _ _ :: _) _ _)); refine wpList_store_st (o := ⟨none, .store _ (.tmp 2) _, _, _, _, _⟩) rfl _ _ _ rfl rfl (v := .agg _) rfl HS tk sz_impl_Pool vcs rfx rfx (by simp) ?_ rfl; clear HS; intro w6_1 hz6_1 HS; simp only [nicL, Value.cells, List.append_nil] at HS))
  refine bodyPost_retc rfx rfx HS tk ag_impl_Pool rfx rfx ?_
  exact retPool HS tk
set_option maxRecDepth 100000 in
set_option maxHeartbeats 4000000 in
theorem eqPool_same (v v2 : Value) (fr : List Int) (b z c : Int) (w : World) (k1 : Holds w fr [v]) (k2 : Holds w fr [v2]) :
    Calls Tryz.prog 48 #[.agg #[.int .i64 b, .int .i64 z, .int .i64 c, v], .agg #[.int .i64 b, .int .i64 z, .int .i64 c, v2]] w fun e w' => e = .returned (.bool true) ∧ Ex w w' := by
  obtain ⟨AA, cap, rfl, z1, z2⟩ := k1.fl
  unfold maxLen at z2
  obtain ⟨BB, cap2, rfl, y1, y2⟩ := k2.fl
  unfold maxLen at y2
  have e0 : (b != b) = false := by simp
  have e1 : (z != z) = false := by simp
  have e2 : (c != c) = false := by simp
  have HS := St.start w
  go_enter Tryz.func48, Tryz.ntmps48
  go_wp2_with (first
        | (go_at_call 139; (with_reducible refine (eqIntS_same _ _ fr _ (k1.ex HS.ex) (k2.ex HS.ex)).mono ?_); rintro e w' ⟨rfl, hx⟩; replace HS := HS.grow hx; clear hx)
        | ((with_reducible (show wpList _ _ _ (Oper.mk (some 2) (Op.box _ _) _ _ _ _ :: _) _ _)); refine wpList_box_st (o := ⟨some 2, .box _ _, _, _, _, _⟩) rfl _ _ rfl (v := .agg (List.toArray _)) rfl HS ?_; clear HS; intro w2 b2 hb2 HS; simp only [Value.cells] at HS)
        | ((with_reducible (show wpList _ _ _ (Oper.mk (some 2) (Op.box _ _) _ _ _ _ :: _) _ _)); refine wpList_box_st (o := ⟨some 2, .box _ _, _, _, _, _⟩) rfl _ _ rfl (v := .agg _) rfl HS ?_; clear HS; intro w2 b2 hb2 HS; simp only [Value.cells] at HS)
        | ((with_reducible (show wpList _ _ _ (Oper.mk (some 3) (Op.box _ _) _ _ _ _ :: _) _ _)); refine wpList_box_st (o := ⟨some 3, .box _ _, _, _, _, _⟩) rfl _ _ rfl (v := .agg (List.toArray _)) rfl HS ?_; clear HS; intro w3 b3 hb3 HS; simp only [Value.cells] at HS)
        | ((with_reducible (show wpList _ _ _ (Oper.mk (some 3) (Op.box _ _) _ _ _ _ :: _) _ _)); refine wpList_box_st (o := ⟨some 3, .box _ _, _, _, _, _⟩) rfl _ _ rfl (v := .agg _) rfl HS ?_; clear HS; intro w3 b3 hb3 HS; simp only [Value.cells] at HS)
        | ((with_reducible (show wpList _ _ _ (Oper.mk (some 6) (Op.load _ _) _ _ _ _ :: _) _ _)); refine wpList_loadS_st (o := ⟨some 6, .load _ _, _, _, _, _⟩) rfl _ _ rfl rfl HS tk sc_int rfx ?_)
        | ((with_reducible (show wpList _ _ _ (Oper.mk (some 8) (Op.load _ _) _ _ _ _ :: _) _ _)); refine wpList_loadS_st (o := ⟨some 8, .load _ _, _, _, _, _⟩) rfl _ _ rfl rfl HS tk sc_int rfx ?_)
        | ((with_reducible (show wpList _ _ _ (Oper.mk (some 11) (Op.load _ _) _ _ _ _ :: _) _ _)); refine wpList_loadS_st (o := ⟨some 11, .load _ _, _, _, _, _⟩) rfl _ _ rfl rfl HS tk sc_int rfx ?_)
        | ((with_reducible (show wpList _ _ _ (Oper.mk (some 13) (Op.load _ _) _ _ _ _ :: _) _ _)); refine wpList_loadS_st (o := ⟨some 13, .load _ _, _, _, _, _⟩) rfl _ _ rfl rfl HS tk sc_int rfx ?_)
        | ((with_reducible (show wpList _ _ _ (Oper.mk (some 16) (Op.load _ _) _ _ _ _ :: _) _ _)); refine wpList_loadS_st (o := ⟨some 16, .load _ _, _, _, _, _⟩) rfl _ _ rfl rfl HS tk sc_int rfx ?_)
        | ((with_reducible (show wpList _ _ _ (Oper.mk (some 18) (Op.load _ _) _ _ _ _ :: _) _ _)); refine wpList_loadS_st (o := ⟨some 18, .load _ _, _, _, _, _⟩) rfl _ _ rfl rfl HS tk sc_int rfx ?_)
        | ((with_reducible (show wpList _ _ _ (Oper.mk (some 21) (Op.load _ _) _ _ _ _ :: _) _ _)); refine wpList_loadS_st (o := ⟨some 21, .load _ _, _, _, _, _⟩) rfl _ _ rfl rfl HS tk sc_Sint rfx ?_)
        | ((with_reducible (show wpList _ _ _ (Oper.mk (some 23) (Op.load _ _) _ _ _ _ :: _) _ _)); refine wpList_loadS_st (o := ⟨some 23, .load _ _, _, _, _, _⟩) rfl _ _ rfl rfl HS tk sc_Sint rfx ?_))
  go_ret
  exact ⟨rfl, HS.ex⟩
theorem markIntS_st {w0 : World} {Js : List Asn} (v : Value) (xs : List Int) (q : Nat) (w : World) (HS : St w0 w (ownA xs [v] :: Js)) (h1 : q + xs.length ≤ 4611686018427387904) {k : Int} (hk : k = (q : Int)) :
    Calls Tryz.prog 141 #[v, .int .i64 k] w (fun e w' => e = .returned (.int .i64 ((q + xs.length : Nat) : Int)) ∧ St w0 w' (ownA (marks xs.length (q : Int)) [v] :: Js)) := by
  subst hk
  have := HS.marked (y := marks xs.length (q : Int)) (P := Tryz.prog) (f := 141) (args := #[v, .int .i64 (q : Int)]) (k := (q : Int) + xs.length) .head (fun bs t _ hf => markIntS_any v xs bs _ w t hf (by omega) (by omega))
  rwa [show ((q + xs.length : Nat) : Int) = (q : Int) + xs.length from by omega]
set_option maxRecDepth 100000 in
set_option maxHeartbeats 4000000 in
theorem markPool_st {w0 : World} {Js : List Asn} (v : Value) (fr : List Int) (b z c : Int) (q : Nat) (w : World) (HS : St w0 w (ownA fr [v] :: Js)) (h1 : q + fr.length ≤ 4611686018427387904) {k : Int} (hk : k = (q : Int)) :
    Calls Tryz.prog 50 #[.agg #[.int .i64 b, .int .i64 z, .int .i64 c, v], .int .i64 k] w (fun e w' => e = .returned (.int .i64 ((q + fr.length : Nat) : Int)) ∧ St w0 w' (ownA (marks fr.length (q : Int)) [v] :: Js)) := by
  subst hk
  obtain ⟨A1, c1, rfl⟩ := ownA.form HS .head
  go_enter Tryz.func50, Tryz.ntmps50
  go_wp2_with (first
        | (go_at_call 141; (with_reducible refine (markIntS_st _ fr q _ (HS.take tk) h1 rfl).mono ?_); rintro e w' ⟨rfl, HS9⟩; clear HS; have HS := HS9; clear HS9)
        | ((with_reducible (show wpList _ _ _ (Oper.mk (some 2) (Op.box _ _) _ _ _ _ :: _) _ _)); refine wpList_box_st (o := ⟨some 2, .box _ _, _, _, _, _⟩) rfl _ _ rfl (v := .agg (List.toArray _)) rfl HS ?_; clear HS; intro w2 b2 hb2 HS; simp only [Value.cells] at HS)
        | ((with_reducible (show wpList _ _ _ (Oper.mk (some 2) (Op.box _ _) _ _ _ _ :: _) _ _)); refine wpList_box_st (o := ⟨some 2, .box _ _, _, _, _, _⟩) rfl _ _ rfl (v := .agg _) rfl HS ?_; clear HS; intro w2 b2 hb2 HS; simp only [Value.cells] at HS)
        | ((with_reducible (show wpList _ _ _ (Oper.mk (some 6) (Op.load _ _) _ _ _ _ :: _) _ _)); refine wpList_loadS_st (o := ⟨some 6, .load _ _, _, _, _, _⟩) rfl _ _ rfl rfl HS tk sc_Sint rfx ?_))
  go_ret
  exact ⟨rfl, HS.arr (.cons tk (arr_drop _ _))⟩
set_option maxRecDepth 100000 in
set_option maxHeartbeats 4000000 in
theorem heldPool_any (v : Value) (b z c : Int) (n q : Nat) (k0 : Int) (w : World) (k1 : Holds w (marks n k0) [v]) (hk0 : k0 = (q : Int)) (h1 : q + n ≤ 4611686018427387904) {k : Int} (hk : k = (q : Int)) :
    Calls Tryz.prog 52 #[.agg #[.int .i64 b, .int .i64 z, .int .i64 c, v], .int .i64 k] w fun e w' => e = .returned (.int .i64 ((q + n : Nat) : Int)) ∧ Ex w w' := by
  subst hk
  subst hk0
  obtain ⟨AA, cap, rfl, z1, z2⟩ := k1.fl
  unfold maxLen at z2
  rw [marks_length] at *
  have HS := St.start w
  go_enter Tryz.func52, Tryz.ntmps52
  go_wp2_with (first
        | (go_at_call 143; (with_reducible refine (heldIntS_any _ n (q : Int) _ (k1.ex HS.ex) (by omega) (by omega)).mono ?_); rintro e w' ⟨rfl, rfl⟩)
        | ((with_reducible (show wpList _ _ _ (Oper.mk (some 2) (Op.box _ _) _ _ _ _ :: _) _ _)); refine wpList_box_st (o := ⟨some 2, .box _ _, _, _, _, _⟩) rfl _ _ rfl (v := .agg (List.toArray _)) rfl HS ?_; clear HS; intro w2 b2 hb2 HS; simp only [Value.cells] at HS)
        | ((with_reducible (show wpList _ _ _ (Oper.mk (some 2) (Op.box _ _) _ _ _ _ :: _) _ _)); refine wpList_box_st (o := ⟨some 2, .box _ _, _, _, _, _⟩) rfl _ _ rfl (v := .agg _) rfl HS ?_; clear HS; intro w2 b2 hb2 HS; simp only [Value.cells] at HS)
        | ((with_reducible (show wpList _ _ _ (Oper.mk (some 6) (Op.load _ _) _ _ _ _ :: _) _ _)); refine wpList_loadS_st (o := ⟨some 6, .load _ _, _, _, _, _⟩) rfl _ _ rfl rfl HS tk sc_Sint rfx ?_))
  go_ret
  exact ⟨ret_int (by omega), HS.ex⟩
end Go.Proofs.YtbdcaacpemkloaaGreat
end
section
namespace Go.Proofs.YtbdcaacpemkloaaGreat
open Go Go.RowKit Go.Vc
set_option linter.unusedVariables false
set_option linter.unusedSimpArgs false
set_option linter.unnecessarySimpa false
structure EthX where
  (dst src vl ty : Int)
  (body : ByteArray)
structure IpX where
  (tos id ttl pr src dst : Int)
  (body : ByteArray)
structure SegX where
  (kind sp dp seq ack fl win : Int)
  (body : ByteArray)
structure Pk where
  (dm sm vl tos id ttl si di kind sp dp seq ack fl win : Int)
  (body : ByteArray)
def m6 (s : ByteArray) (i : Int) : Int := get16 s i * 4294967296 + get32 s (i + 2)
def ethX (s : ByteArray) : EthX := if get16 s 12 = 33024 ∧ 18 ≤ s.size then ⟨m6 s 0, m6 s 6, get16 s 14, get16 s 16, s.extract (Int.toNat 18) s.size⟩ else ⟨m6 s 0, m6 s 6, -1, get16 s 12, s.extract (Int.toNat 14) s.size⟩
def EthX.ok (e : EthX) : Bool := ethOkB e.dst e.src e.vl e.ty e.body.size
def ethPB (s : ByteArray) : Bool := decide (18 ≤ s.size) && (ethX s).ok
def ethPF (s : ByteArray) : EthX := if ethPB s then ethX s else ⟨0, 0, 0, 0, ⟨#[]⟩⟩
theorem ethPF_y {s : ByteArray} (h : ethPB s = true) : ethPF s = ethX s := if_pos h
theorem ethPF_n {s : ByteArray} (h : ethPB s = false) : ethPF s = ⟨0, 0, 0, 0, ⟨#[]⟩⟩ := if_neg (by rw [h]; decide)
def ipX (s : ByteArray) : IpX := ⟨bAt s 1, get16 s 4, bAt s 8, bAt s 9, get32 s 12, get32 s 16, s.extract (Int.toNat 20) (get16 s 2).toNat⟩
def IpX.ok (d : IpX) : Bool := ipOkB d.tos d.id d.ttl d.pr d.src d.dst d.body.size
def IpX.im (d : IpX) : ByteArray := ipR d.tos d.id d.ttl d.pr d.src d.dst d.body
def ipPB (s : ByteArray) : Bool := decide (20 ≤ s.size) && (decide (20 ≤ get16 s 2) && (decide (get16 s 2 ≤ s.size) && ((ipX s).ok && decide ((ipX s).im = s.extract (Int.toNat 0) (get16 s 2).toNat))))
def ipPF (s : ByteArray) : IpX := if ipPB s then ipX s else ⟨0, 0, 0, 0, 0, 0, ⟨#[]⟩⟩
theorem ipPF_y {s : ByteArray} (h : ipPB s = true) : ipPF s = ipX s := if_pos h
theorem ipPF_n {s : ByteArray} (h : ipPB s = false) : ipPF s = ⟨0, 0, 0, 0, 0, 0, ⟨#[]⟩⟩ := if_neg (by rw [h]; decide)
def segX (kind : Int) (s : ByteArray) : SegX := if kind = 6 then ⟨kind, get16 s 0, get16 s 2, get32 s 4, get32 s 8, bAt s 13, get16 s 14, s.extract (Int.toNat 20) s.size⟩ else ⟨kind, get16 s 0, get16 s 2, 0, 0, 0, 0, s.extract (Int.toNat 8) s.size⟩
def SegX.ok (src dst : Int) (g : SegX) : Bool := segC src dst g.kind g.sp g.dp g.seq g.ack g.fl g.win g.body
def SegX.im (src dst : Int) (g : SegX) : ByteArray := segR src dst g.kind g.sp g.dp g.seq g.ack g.fl g.win g.body
def segPB (src dst kind : Int) (s : ByteArray) : Bool := ((decide (kind = 6) && decide (20 ≤ s.size)) || (decide (kind = 17) && decide (8 ≤ s.size))) && ((segX kind s).ok src dst && decide ((segX kind s).im src dst = s))
def segPF (src dst kind : Int) (s : ByteArray) : SegX := if segPB src dst kind s then segX kind s else ⟨0, 0, 0, 0, 0, 0, 0, ⟨#[]⟩⟩
theorem segPF_y {src dst kind : Int} {s : ByteArray} (h : segPB src dst kind s = true) : segPF src dst kind s = segX kind s := if_pos h
theorem segPF_n {src dst kind : Int} {s : ByteArray} (h : segPB src dst kind s = false) : segPF src dst kind s = ⟨0, 0, 0, 0, 0, 0, 0, ⟨#[]⟩⟩ := if_neg (by rw [h]; decide)
def Pk.sup (p : Pk) : Bool := superOkB p.dm p.sm p.vl p.tos p.id p.ttl p.si p.di p.kind p.sp p.dp p.seq p.ack p.fl p.win p.body.size
def Pk.im (p : Pk) : ByteArray := imgR p.dm p.sm p.vl p.tos p.id p.ttl p.si p.di p.kind p.sp p.dp p.seq p.ack p.fl p.win p.body
def pk0 : Pk := ⟨0, 0, 0, 0, 0, 0, 0, 0, 0, 0, 0, 0, 0, 0, 0, ⟨#[]⟩⟩
def mkPk (e : EthX) (d : IpX) (g : SegX) : Pk := ⟨e.dst, e.src, e.vl, d.tos, d.id, d.ttl, d.src, d.dst, g.kind, g.sp, g.dp, g.seq, g.ack, g.fl, g.win, g.body⟩
def rdX (s : ByteArray) : Pk := mkPk (ethX s) (ipX (ethX s).body) (segX (ipX (ethX s).body).pr (ipX (ethX s).body).body)
def rdC (s : ByteArray) : Int :=
  if ethPB s = true ∧ (ethX s).ty = 2048 then
    if ipPB (ethX s).body = true then
      if segPB (ipX (ethX s).body).src (ipX (ethX s).body).dst (ipX (ethX s).body).pr (ipX (ethX s).body).body = true then
        if (rdX s).sup = true then 0 else 5
      else 4
    else 3
  else 2
def rdF (s : ByteArray) : Pk := if rdC s = 0 then rdX s else pk0
theorem rd_2 {s : ByteArray} (h : ethPB s = false ∨ ¬ (ethX s).ty = 2048) : rdF s = pk0 ∧ rdC s = 2 := by
  have : rdC s = 2 := by
    unfold rdC
    rw [if_neg]
    rintro ⟨h1, h2⟩
    rcases h with h | h
    · rw [h] at h1; cases h1
    · exact h h2
  exact ⟨by rw [rdF, this, if_neg (by decide)], this⟩
theorem rd_3 {s : ByteArray} (h1 : ethPB s = true) (h2 : (ethX s).ty = 2048) (h : ipPB (ethX s).body = false) : rdF s = pk0 ∧ rdC s = 3 := by
  have : rdC s = 3 := by
    unfold rdC
    rw [if_pos ⟨h1, h2⟩, if_neg (by rw [h]; decide)]
  exact ⟨by rw [rdF, this, if_neg (by decide)], this⟩
theorem rd_4 {s : ByteArray} (h1 : ethPB s = true) (h2 : (ethX s).ty = 2048) (h3 : ipPB (ethX s).body = true) (h : segPB (ipX (ethX s).body).src (ipX (ethX s).body).dst (ipX (ethX s).body).pr (ipX (ethX s).body).body = false) : rdF s = pk0 ∧ rdC s = 4 := by
  have : rdC s = 4 := by
    unfold rdC
    rw [if_pos ⟨h1, h2⟩, if_pos h3, if_neg (by rw [h]; decide)]
  exact ⟨by rw [rdF, this, if_neg (by decide)], this⟩
theorem rd_5 {s : ByteArray} (h1 : ethPB s = true) (h2 : (ethX s).ty = 2048) (h3 : ipPB (ethX s).body = true) (h4 : segPB (ipX (ethX s).body).src (ipX (ethX s).body).dst (ipX (ethX s).body).pr (ipX (ethX s).body).body = true) (h : (rdX s).sup = false) : rdF s = pk0 ∧ rdC s = 5 := by
  have : rdC s = 5 := by
    unfold rdC
    rw [if_pos ⟨h1, h2⟩, if_pos h3, if_pos h4, if_neg (by rw [h]; decide)]
  exact ⟨by rw [rdF, this, if_neg (by decide)], this⟩
theorem rd_0 {s : ByteArray} (h1 : ethPB s = true) (h2 : (ethX s).ty = 2048) (h3 : ipPB (ethX s).body = true) (h4 : segPB (ipX (ethX s).body).src (ipX (ethX s).body).dst (ipX (ethX s).body).pr (ipX (ethX s).body).body = true) (h : (rdX s).sup = true) : rdF s = rdX s ∧ rdC s = 0 := by
  have : rdC s = 0 := by
    unfold rdC
    rw [if_pos ⟨h1, h2⟩, if_pos h3, if_pos h4, if_pos h]
  exact ⟨by rw [rdF, this, if_pos rfl], this⟩
theorem ethX_body (s : ByteArray) : (ethX s).body.size ≤ s.size := by
  unfold ethX
  split <;> (simp only [ByteArray.size_extract]; omega)
theorem ipX_body (s : ByteArray) : (ipX s).body.size ≤ s.size := by
  unfold ipX
  simp only [ByteArray.size_extract]; omega
theorem segX_body (k : Int) (s : ByteArray) : (segX k s).body.size ≤ s.size := by
  unfold segX
  split <;> (simp only [ByteArray.size_extract]; omega)
theorem i64_or_big (a b i : Nat) (h : b < 2 ^ i) (ha : a * 2 ^ i + b < 4611686018427387904) : Go.bits .or .i64 ((a * 2 ^ i : Nat) : Int) (b : Int) = ((a * 2 ^ i + b : Nat) : Int) := by
  have e : ∀ n : Nat, n < 4611686018427387904 → (BitVec.ofInt 64 (n : Int)).toNat = n := fun n hn => by
    rw [BitVec.ofInt_natCast, BitVec.toNat_ofNat]; exact Nat.mod_eq_of_lt (by omega)
  show IntKind.i64.wrap ((BitVec.ofInt 64 ((a * 2 ^ i : Nat) : Int) ||| BitVec.ofInt 64 (b : Int)).toNat : Int) = _
  rw [BitVec.toNat_or, e _ (by omega), e _ (by omega), or_add _ _ _ h, IntKind.wrap_i64]
  generalize a * 2 ^ i = c at *
  omega
theorem m6_sh {a b : Int} (h0 : 0 ≤ a ∧ a ≤ 65535) (h1 : 0 ≤ b ∧ b ≤ 4294967295) : orI (IntKind.i64.wrap (a * 2 ^ Int.toNat 32)) b = a * 4294967296 + b := by
  obtain ⟨x, rfl⟩ := Int.eq_ofNat_of_zero_le h0.1
  obtain ⟨y, rfl⟩ := Int.eq_ofNat_of_zero_le h1.1
  have e1 : (2 : Int) ^ Int.toNat 32 = 4294967296 := by decide
  rw [e1, IntWalk.i64_in _ (by omega), orI_eq, show ((x : Int) * 4294967296) = ((x * 2 ^ 32 : Nat) : Int) by omega]
  rw [i64_or_big x y 32 (by omega) (by omega)]
  omega
theorem m6_ad {a b : Int} (h0 : 0 ≤ a ∧ a ≤ 65535) (h1 : 0 ≤ b ∧ b ≤ 4294967295) : wr (IntKind.i64.wrap (a * 2 ^ Int.toNat 32) + b) = a * 4294967296 + b := by
  have e1 : (2 : Int) ^ Int.toNat 32 = 4294967296 := by decide
  rw [e1, IntWalk.i64_in _ (by omega), wr_id (by omega) (by omega)]
theorem get16_in {s : ByteArray} {i : Int} (h0 : 0 ≤ i) (h : i + 2 ≤ s.size) : 0 ≤ get16 s i ∧ get16 s i ≤ 65535 := by
  have := get16_bd s i
  rw [get16, if_pos ⟨h0, h⟩] at *
  omega
theorem get32_in {s : ByteArray} {i : Int} (h0 : 0 ≤ i) (h : i + 4 ≤ s.size) : 0 ≤ get32 s i ∧ get32 s i ≤ 4294967295 := by
  have := get32_bd s i
  rw [get32, if_pos ⟨h0, h⟩] at *
  omega
end Go.Proofs.YtbdcaacpemkloaaGreat
end
section
namespace Go.Proofs.YtbdcaacpemkloaaGreat
open Go Go.RowKit Go.Vc
set_option linter.unusedVariables false
set_option linter.unusedSimpArgs false
set_option linter.unnecessarySimpa false
theorem atp_eq {α : Type} [Inhabited α] {l : List α} {i : Nat} (h : i < l.length) : at' l i = l[i] := by unfold at'; rw [List.getElem?_eq_getElem h]; rfl
theorem atp_mem {α : Type} [Inhabited α] {l : List α} {i : Nat} (h : i < l.length) : at' l i ∈ l := by rw [atp_eq h]; exact List.getElem_mem h
structure Sm where
  (kind si di sp dp next : Int)
  (data : ByteArray)
  (done : Bool)
def sm0 : Sm := ⟨0, 0, 0, 0, 0, 0, ⟨#[]⟩, false⟩
instance : Inhabited Sm := ⟨sm0⟩
def smE (s : Sm) : List Value := [.int .i64 s.kind, .int .i64 s.si, .int .i64 s.di, .int .i64 s.sp, .int .i64 s.dp, .int .i64 s.next, .string s.data, .bool s.done]
def smHit (s : Sm) (kind si di sp dp : Int) : Bool := decide (s.kind = kind) && (decide (s.si = si) && (decide (s.di = di) && (decide (s.sp = sp) && decide (s.dp = dp))))
def smIdxF (kind si di sp dp : Int) : Nat → List Sm → Int
  | _, [] => -1
  | i, s :: l => if smHit s kind si di sp dp then (i : Int) else smIdxF kind si di sp dp (i + 1) l
def smIdx (l : List Sm) (kind si di sp dp : Int) : Int := smIdxF kind si di sp dp 0 l
theorem sm_hit {l : List Sm} {kind si di sp dp : Int} {i : Nat} (h : smIdx l kind si di sp dp = smIdxF kind si di sp dp i (l.drop i)) (hi : i < l.length) (hh : smHit (at' l i) kind si di sp dp = true) : smIdx l kind si di sp dp = i := by
  rw [h, drop_at hi]
  simp only [smIdxF]
  rw [if_pos hh]
theorem sm_go {l : List Sm} {kind si di sp dp : Int} {i : Nat} (h : smIdx l kind si di sp dp = smIdxF kind si di sp dp i (l.drop i)) (hi : i < l.length) (hh : smHit (at' l i) kind si di sp dp = false) : smIdx l kind si di sp dp = smIdxF kind si di sp dp (i + 1) (l.drop (i + 1)) := by
  rw [h, drop_at hi]
  simp only [smIdxF]
  rw [if_neg (by rw [hh]; decide)]
theorem sm_end {l : List Sm} {kind si di sp dp : Int} {i : Nat} (h : smIdx l kind si di sp dp = smIdxF kind si di sp dp i (l.drop i)) (hi : ¬ i < l.length) : smIdx l kind si di sp dp = -1 := by
  rw [h, List.drop_eq_nil_of_le (by omega)]; rfl
theorem smIdxF_bd (kind si di sp dp : Int) : ∀ (l : List Sm) (i : Nat), smIdxF kind si di sp dp i l = -1 ∨ ((i : Int) ≤ smIdxF kind si di sp dp i l ∧ smIdxF kind si di sp dp i l < i + l.length)
  | [], i => .inl rfl
  | s :: l, i => by
    simp only [smIdxF]
    split
    · right; simp; omega
    · rcases smIdxF_bd kind si di sp dp l (i + 1) with h | h
      · exact .inl h
      · right; simp only [List.length_cons]; omega
theorem smIdx_bd (l : List Sm) (kind si di sp dp : Int) : -1 ≤ smIdx l kind si di sp dp ∧ smIdx l kind si di sp dp < l.length := by
  have := smIdxF_bd kind si di sp dp l 0
  unfold smIdx
  omega
theorem smIdx_ge {l : List Sm} {kind si di sp dp : Int} (h : ¬ smIdx l kind si di sp dp < 0) : ∃ i, i < l.length ∧ smIdx l kind si di sp dp = (i : Nat) := by
  have := smIdx_bd l kind si di sp dp
  exact ⟨(smIdx l kind si di sp dp).toNat, by omega, by omega⟩
def Pk.ix (p : Pk) (l : List Sm) : Int := smIdx l p.kind p.si p.di p.sp p.dp
def Pk.dg (p : Pk) : ByteArray := word16 (p.body.size : Int) ++ p.body
def dlO (s : Sm) (p : Pk) : Int := (s.next - p.seq) % 4294967296
def dlS (s : Sm) (p : Pk) : Sm := { s with data := s.data ++ p.body.extract (dlO s p).toNat p.body.size, next := (s.next + p.body.size - dlO s p) % 4294967296, done := !decide (andI p.fl 1 = 0) }
def dlF (l : List Sm) (p : Pk) : List Sm :=
  if p.sup = true then
    if p.kind = 17 then
      if p.ix l < 0 then l ++ [⟨p.kind, p.si, p.di, p.sp, p.dp, 0, p.dg, false⟩]
      else l.set (p.ix l).toNat { at' l (p.ix l).toNat with data := (at' l (p.ix l).toNat).data ++ p.dg }
    else if ¬ andI p.fl 2 = 0 then
      if p.ix l < 0 then l ++ [⟨p.kind, p.si, p.di, p.sp, p.dp, (p.seq + 1) % 4294967296, ⟨#[]⟩, false⟩] else l
    else if p.ix l < 0 ∨ (at' l (p.ix l).toNat).done = true ∨ ¬ andI p.fl 4 = 0 then l
    else if dlO (at' l (p.ix l).toNat) p ≤ p.body.size then l.set (p.ix l).toNat (dlS (at' l (p.ix l).toNat) p) else l
  else l
theorem pk_len {p : Pk} (h : p.sup = true) : p.body.size ≤ 320 := (superOk_facts h).2.2.2.2.2.2.2.2.2
theorem dg_le (p : Pk) : p.dg.size ≤ p.body.size + 2 := by
  have := word16_le (p.body.size : Int)
  unfold Pk.dg
  rw [ByteArray.size_append]; omega
theorem dlF_len (l : List Sm) (p : Pk) : (dlF l p).length ≤ l.length + 1 := by
  unfold dlF
  repeat' split
  all_goals simp
theorem dlF_sz {l : List Sm} {p : Pk} {M : Nat} (h : ∀ s ∈ l, s.data.size ≤ M) : ∀ s ∈ dlF l p, s.data.size ≤ M + 400 := by
  intro s hs
  have hge : ∀ i, i < l.length → (at' l i).data.size ≤ M := fun i hi => h _ (atp_mem hi)
  unfold dlF at hs
  split at hs
  · rename_i hsup
    have hb := pk_len hsup
    have hd := dg_le p
    split at hs
    · split at hs
      · rcases List.mem_append.1 hs with hs | hs
        · have := h s hs; omega
        · rw [List.mem_singleton.1 hs]; simp only; omega
      · rename_i hi
        obtain ⟨i, hi2, e⟩ := smIdx_ge hi
        have e2 : (p.ix l).toNat = i := by unfold Pk.ix; omega
        rw [e2] at hs
        have := hge i hi2
        rcases List.mem_or_eq_of_mem_set hs with hs | hs
        · have := h s hs; omega
        · rw [hs]; simp only [ByteArray.size_append]; omega
    · split at hs
      · split at hs
        · rcases List.mem_append.1 hs with hs | hs
          · have := h s hs; omega
          · rw [List.mem_singleton.1 hs]; exact Nat.zero_le _
        · have := h s hs; omega
      · split at hs
        · have := h s hs; omega
        · rename_i hi
          split at hs
          · have hi3 : ¬ smIdx l p.kind p.si p.di p.sp p.dp < 0 := fun hh => hi (.inl hh)
            obtain ⟨i, hi2, e⟩ := smIdx_ge hi3
            have e2 : (p.ix l).toNat = i := by unfold Pk.ix; omega
            rw [e2] at hs
            have := hge i hi2
            rcases List.mem_or_eq_of_mem_set hs with hs | hs
            · have := h s hs; omega
            · rw [hs]; unfold dlS; simp only [ByteArray.size_append, ByteArray.size_extract]; omega
          · have := h s hs; omega
  · have := h s hs; omega
def giveB (pb pz pc : Int) (fr ks : List Int) : Bool := poolB pb pz pc fr && poolB pb pz pc (fr ++ ks)
def giveF (pb pz pc : Int) (fr ks : List Int) : List Int := if giveB pb pz pc fr ks then fr ++ ks else fr
theorem give_y {pb pz pc : Int} {fr ks : List Int} (h1 : poolB pb pz pc fr = true) (h2 : poolB pb pz pc (fr ++ ks) = true) : giveF pb pz pc fr ks = fr ++ ks ∧ giveB pb pz pc fr ks = true := by
  have : giveB pb pz pc fr ks = true := by unfold giveB; rw [h1, h2]; rfl
  exact ⟨if_pos this, this⟩
theorem give_n {pb pz pc : Int} {fr ks : List Int} (h : poolB pb pz pc fr = false ∨ poolB pb pz pc (fr ++ ks) = false) : giveF pb pz pc fr ks = fr ∧ giveB pb pz pc fr ks = false := by
  have : giveB pb pz pc fr ks = false := by unfold giveB; rcases h with h | h <;> rw [h] <;> simp
  exact ⟨if_neg (by rw [this]; decide), this⟩
def bufA (pb pz pc : Int) (fr : List Int) (k : Int) : Int := if poolB pb pz pc fr && inB k 0 (pc - 1) then pb + k * pz else -1
theorem bufA_n {pb pz pc k : Int} {fr : List Int} (h : poolB pb pz pc fr = false ∨ inB k 0 (pc - 1) = false) : bufA pb pz pc fr k = -1 := by
  refine if_neg ?_
  rcases h with h | h <;> rw [h] <;> simp
theorem bufA_y {pb pz pc k : Int} {fr : List Int} (h1 : poolB pb pz pc fr = true) (h2 : inB k 0 (pc - 1) = true) : bufA pb pz pc fr k = pb + k * pz ∧ 0 ≤ k * pz ∧ k * pz ≤ 7680 := by
  obtain ⟨b0, b1, z0, z1, c0, c1, _⟩ := poolB_facts h1
  have hk := inB_iff.1 h2
  refine ⟨if_pos (by rw [h1, h2]; rfl), Int.mul_nonneg hk.1 (by omega), ?_⟩
  have h3 := Int.mul_le_mul (show k ≤ 15 by omega) z1 (by omega) (by omega)
  omega
theorem bufA_bd (pb pz pc : Int) (fr : List Int) (k : Int) : -1 ≤ bufA pb pz pc fr k ∧ bufA pb pz pc fr k ≤ 140000 := by
  by_cases h1 : poolB pb pz pc fr = true
  · by_cases h2 : inB k 0 (pc - 1) = true
    · obtain ⟨e, h3, h4⟩ := bufA_y h1 h2
      obtain ⟨b0, b1, _⟩ := poolB_facts h1
      omega
    · rw [bufA_n (.inr (by simpa using h2))]; omega
  · rw [bufA_n (.inl (by simpa using h1))]; omega
def dcC (s : ByteArray) : Comp := (get16 s 0, get16 s 2, get16 s 4, get16 s 6, get32 s 8)
def dcB (s : ByteArray) : Bool := decide (s.size = 16) && !decide (1 < get32 s 12)
theorem dc_n {s : ByteArray} (h : ¬ s.size = 16 ∨ 1 < get32 s 12) : dcB s = false := by
  unfold dcB
  rcases h with h | h
  · rw [decide_eq_false h]; rfl
  · rw [decide_eq_true h]; simp
theorem dc_y {s : ByteArray} (h1 : s.size = 16) (h2 : get32 s 12 ≤ 1) : dcB s = true := by
  unfold dcB
  rw [decide_eq_true h1, decide_eq_false (by omega)]; rfl
theorem nx_n {l : List Mp} {ps : Pg} {d b s c : Int} (h : queueOkB b s c = false ∨ (dmaRF l ps d (slotC b s c) 16).2 = false ∨ ¬ get32 (dmaRF l ps d (slotC b s c) 16).1 12 = phaseC s c) : nextF l ps d b s c = ((0, 0, 0, 0, 0), c, false) := by
  unfold nextF
  split
  · rename_i h1
    split
    · rename_i t e
      split
      · rename_i h3
        rw [e] at h
        simp only at h
        rcases h with h | h | h
        · rw [h] at h1; cases h1
        · cases h
        · exact (h h3).elim
      · rfl
    · rfl
  · rfl
theorem nx_y {l : List Mp} {ps : Pg} {d b s c : Int} (h1 : queueOkB b s c = true) (h2 : (dmaRF l ps d (slotC b s c) 16).2 = true) (h3 : get32 (dmaRF l ps d (slotC b s c) 16).1 12 = phaseC s c) : nextF l ps d b s c = (dcC (dmaRF l ps d (slotC b s c) 16).1, nextC s c, true) := by
  unfold nextF
  rw [if_pos h1]
  generalize dmaRF l ps d (slotC b s c) 16 = x at h2 h3 ⊢
  obtain ⟨t, ok⟩ := x
  simp only at h2 h3
  subst h2
  simp only
  rw [if_pos h3]; rfl
theorem nx_bd (l : List Mp) (ps : Pg) (d b s c : Int) : (nextF l ps d b s c).1.2.1 ≤ 65535 := by
  by_cases h1 : queueOkB b s c = true
  · by_cases h2 : (dmaRF l ps d (slotC b s c) 16).2 = true
    · by_cases h3 : get32 (dmaRF l ps d (slotC b s c) 16).1 12 = phaseC s c
      · rw [nx_y h1 h2 h3]
        exact (get16_bd _ 2).2
      · rw [nx_n (.inr (.inr h3))]; exact (by decide : (0 : Int) ≤ 65535)
    · rw [nx_n (.inr (.inl (by simpa using h2)))]; exact (by decide : (0 : Int) ≤ 65535)
  · rw [nx_n (.inl (by simpa using h1))]; exact (by decide : (0 : Int) ≤ 65535)
def pkB (l : List Mp) (ps : Pg) (d pb pz pc : Int) (fr : List Int) (x : Comp) : Bool := (dmaRF l ps d (bufA pb pz pc fr x.1) x.2.1).2 && decide (rdC (dmaRF l ps d (bufA pb pz pc fr x.1) x.2.1).1 = 0)
def pkS (l : List Mp) (ps : Pg) (d pb pz pc : Int) (fr : List Int) (x : Comp) (sm : List Sm) : List Sm := if pkB l ps d pb pz pc fr x then dlF sm (rdF (dmaRF l ps d (bufA pb pz pc fr x.1) x.2.1).1) else sm
theorem rdC_nil : rdC ⟨#[]⟩ = 2 := by
  refine (rd_2 (.inl ?_)).2
  unfold ethPB
  rw [decide_eq_false (by decide)]; rfl
theorem pkB_neg {l : List Mp} {ps : Pg} {d pb pz pc : Int} {fr : List Int} {x : Comp} (h : bufA pb pz pc fr x.1 < 0) : pkB l ps d pb pz pc fr x = false := by
  unfold pkB
  rw [Bool.eq_false_iff]
  intro hh
  rw [Bool.and_eq_true, decide_eq_true_eq] at hh
  obtain ⟨h1, h2⟩ := hh
  cases hr : runs l ps d (bufA pb pz pc fr x.1) x.2.1 false with
  | none => rw [dmaRF_no hr] at h1; cases h1
  | some rs =>
    obtain ⟨hm, hps, hn, hseg, hsum, hlen⟩ := runs_fine hr
    obtain ⟨n, hn2⟩ := Int.eq_ofNat_of_zero_le (show 0 ≤ x.2.1 by omega)
    rw [hn2] at hr
    have hro : runsOk l ps (n : Int) = true := by
      cases ho : runsOk l ps (n : Int) with
      | true => rfl
      | false => rw [runs_not ho] at hr; cases hr
    rw [runs_is hro] at hr
    rcases Nat.eq_zero_or_pos n with rfl | hn3
    · rw [parts_zero] at hr
      simp only [Option.some.injEq] at hr
      subst hr
      rw [dmaRF_yes (rs := []) (by rw [hn2, runs_is hro, parts_zero])] at h2
      have : rdC (readAll ps [] ⟨#[]⟩) = 2 := rdC_nil
      rw [this] at h2; omega
    · rw [parts_neg hn3 h] at hr; cases hr
def pollL (l : List Mp) (ps : Pg) (d pb pz pc vb vs : Int) : Nat → List Int → List Sm → Int → Int → List Int × List Sm × Int × Int
  | 0, fr, sm, c, n => (fr, sm, c, n)
  | f + 1, fr, sm, c, n => if (nextF l ps d vb vs c).2.2 = true then pollL l ps d pb pz pc vb vs f (giveF pb pz pc fr [(nextF l ps d vb vs c).1.1]) (pkS l ps d pb pz pc fr (nextF l ps d vb vs c).1 sm) (nextF l ps d vb vs c).2.1 (n + 1) else (fr, sm, c, n)
theorem poll_no {l : List Mp} {ps : Pg} {d pb pz pc vb vs c n : Int} {f : Nat} {fr : List Int} {sm : List Sm} (h : (nextF l ps d vb vs c).2.2 = false) : pollL l ps d pb pz pc vb vs f fr sm c n = (fr, sm, c, n) := by
  cases f with
  | zero => rfl
  | succ f => simp only [pollL]; rw [if_neg (by rw [h]; decide)]
theorem poll_go {l : List Mp} {ps : Pg} {d pb pz pc vb vs c n : Int} {f : Nat} {fr : List Int} {sm : List Sm} (hf : 0 < f) (h : (nextF l ps d vb vs c).2.2 = true) : pollL l ps d pb pz pc vb vs f fr sm c n = pollL l ps d pb pz pc vb vs (f - 1) (giveF pb pz pc fr [(nextF l ps d vb vs c).1.1]) (pkS l ps d pb pz pc fr (nextF l ps d vb vs c).1 sm) (nextF l ps d vb vs c).2.1 (n + 1) := by
  obtain ⟨f, rfl⟩ : ∃ m, f = m + 1 := ⟨f - 1, by omega⟩
  simp only [pollL]
  rw [if_pos h]; rfl
end Go.Proofs.YtbdcaacpemkloaaGreat
end
section
namespace Go.Proofs.YtbdcaacpemkloaaGreat
open Go Go.RowKit Go.Vc
set_option linter.unusedVariables false
set_option linter.unusedSimpArgs false
set_option linter.unnecessarySimpa false
def sumsA (s : ByteArray) : Int := if get16 s 12 = 33024 then 18 else 14
def sumsK (s : ByteArray) : Int := bAt s (sumsA s + 9).toNat
def sumsB (s : ByteArray) : Int := sumsA s + 20 + sumPl (sumsK s)
def Pk.tm (p : Pk) : ByteArray := if p.sup then putBF (putBF p.im (sumsA p.im + 10) (word16 0)) (sumsB p.im) (word16 0) else ⟨#[]⟩
end Go.Proofs.YtbdcaacpemkloaaGreat
end
section
namespace Go.Proofs.YtbdcaacpemkloaaGreat
open Go Go.RowKit Go.Vc
set_option linter.unusedVariables false
set_option linter.unusedSimpArgs false
set_option linter.unnecessarySimpa false
theorem dmaRF_le (l : List Mp) (ps : Pg) (d a n : Int) (hn : n ≤ 4096) : (dmaRF l ps d a n).1.size ≤ 4096 := by
  cases hq : (dmaRF l ps d a n).2 with
  | true =>
    have := dmaRF_size (l := l) (ps := ps) (d := d) (a := a) (n := n) (t := (dmaRF l ps d a n).1) (by rw [← hq])
    omega
  | false =>
    have : (dmaRF l ps d a n).1 = ⟨#[]⟩ := by
      unfold dmaRF at hq ⊢
      split <;> rename_i e
      · rw [e] at hq; cases hq
      · rfl
    rw [this]; exact Nat.zero_le _
def Pk.part (p : Pk) (size : Int) (k : Nat) : Pk :=
  { p with body := p.body.extract ((k : Int) * size).toNat (min (p.body.size : Int) (((k : Int) + 1) * size)).toNat, seq := (p.seq + (k : Int) * size) % 4294967296, id := (p.id + k) % 65536, fl := if ((k : Int) + 1) * size < (p.body.size : Int) then andNotI p.fl 9 else p.fl }
def Pk.ok (p : Pk) : Bool := p.sup && decide (p.body.size ≤ 128)
instance : Inhabited Pk := ⟨pk0⟩
end Go.Proofs.YtbdcaacpemkloaaGreat
end
section
namespace Go.Vc
open Go Go.RowKit
set_option linter.unusedVariables false
section
variable {P : Program} [TyEnv P] {n : Nat} {ops os : List Oper} {dr : Bool} {K : Tm → Hp → Prop} {t : Tm} {H : Hp} {fp : List Fp} {d : Nat}
theorem vepl {sz k j : Nat} {c : Int} {es : List (List Value)} (hj : c.toNat = j) (h : Vd P n ops dr K os ((d, .one (.ep sz es j k)) :: t) H fp) : Vd P n ops dr K os ((d, .one (.ep sz es c.toNat k)) :: t) H fp := by rw [hj]; exact h
theorem vptl {i sz k j : Nat} {c : Int} (hj : c.toNat = j) (h : Vd P n ops dr K os ((d, .one (.ptr i j sz k)) :: t) H fp) : Vd P n ops dr K os ((d, .one (.ptr i c.toNat sz k)) :: t) H fp := by rw [hj]; exact h
theorem vdrl {sz j : Nat} {c : Int} {α : Type} {l : List α} {f : α → List Value} (hj : c.toNat = j) (h : Vd P n ops dr K os ((d, .one (.sl sz ((l.drop j).map f))) :: t) H fp) : Vd P n ops dr K os ((d, .one (.sl sz ((l.map f).drop c.toNat))) :: t) H fp := by
  rw [hj]; rw [List.map_drop] at h; exact h
theorem vhc {k sz j : Nat} {c : Int} (hj : c.toNat = j) (h : Vd P n ops dr K os ((d, .one (.hc k j sz)) :: t) H fp) : Vd P n ops dr K os ((d, .one (.hc k c.toNat sz)) :: t) H fp := by rw [hj]; exact h
end
end Go.Vc
end
section
namespace Go.Proofs.YtbdcaacpemkloaaGreat
open Go Go.RowKit Go.Vc
set_option linter.unusedVariables false
set_option linter.unusedSimpArgs false
set_option linter.unnecessarySimpa false
theorem eqk_Flow : EqOk Tryz.prog 194 [0, 0, 0, 0, 0] := eqOk_of 4 (by kernel_rfl) (by decide) (by kernel_rfl) (by kernel_rfl)
theorem seen_at {n : Nat} {xs : List Int} {k : Int} (h0 : 0 ≤ k) (h1 : k < n) : at' (seenF n xs) k.toNat = xs.contains k := by
  obtain ⟨i, rfl⟩ := Int.eq_ofNat_of_zero_le h0
  rw [atp_eq (by rw [seenF_length]; omega)]
  have := seenF_get xs (show i < n by omega)
  rw [List.getElem?_eq_getElem (by rw [seenF_length]; omega)] at this
  simpa using this
theorem seen_set {n : Nat} {xs : List Int} {k : Int} (h0 : 0 ≤ k) (h1 : k < n) : ((seenF n xs).map booE).set k.toNat [.bool true] = (seenF n (xs ++ [k])).map booE := by
  obtain ⟨i, rfl⟩ := Int.eq_ofNat_of_zero_le h0
  rw [← seenF_set xs (show i < n by omega), List.map_set]; rfl
theorem seen_nil (n : Nat) : (seenF n []).map booE = List.replicate (n : Int).toNat [Value.bool false] := by
  rw [seenF_nil, List.map_replicate]; rfl
theorem take_at {α : Type} [Inhabited α] {l : List α} {i : Nat} (h : i < l.length) : l.take (i + 1) = l.take i ++ [at' l i] := by
  rw [List.take_succ_eq_append_getElem h, atp_eq h]
theorem pool_no {b z c : Int} {fr : List Int} (h : inB b 0 130944 = false ∨ inB z 1 512 = false ∨ inB c 0 16 = false) : poolB b z c fr = false := by
  unfold poolB
  rcases h with h | h | h <;> rw [h] <;> simp
theorem pool_rng {b z : Int} {n : Nat} {fr : List Int} {i : Nat} (hi : i < fr.length) (h : inB (at' fr i) 0 ((n : Int) - 1) = false) : poolB b z n fr = false := poolB_range hi (atp_eq hi).symm h
theorem pool_dup {b z : Int} {n : Nat} {fr : List Int} {i : Nat} (hi : i < fr.length) (h : (fr.take i).contains (at' fr i) = true) : poolB b z n fr = false := poolB_dup hi (atp_eq hi).symm h
theorem pool_stp {n : Nat} {fr : List Int} {i : Nat} (hi : i < fr.length) (g : poolG n fr i) (h1 : inB (at' fr i) 0 ((n : Int) - 1) = true) (h2 : (fr.take i).contains (at' fr i) = false) : poolG n fr (i + 1) := poolG_step hi (atp_eq hi).symm g h1 h2
theorem pool_all {b z : Int} {n : Nat} {fr : List Int} {i : Nat} (h0 : inB b 0 130944 = true) (h1 : inB z 1 512 = true) (h2 : inB (n : Int) 0 16 = true) (g : poolG n fr i) (hi : i ≤ fr.length) (hh : ¬ i < fr.length) : poolB b z n fr = true := by
  obtain rfl : i = fr.length := by omega
  exact poolB_all h0 h1 h2 g
def dcX (s : ByteArray) : Comp := if dcB s then dcC s else (0, 0, 0, 0, 0)
def dcP (s : ByteArray) : Int := if dcB s then get32 s 12 else 0
theorem dcX_y {s : ByteArray} (h : dcB s = true) : dcX s = dcC s ∧ dcP s = get32 s 12 := ⟨if_pos h, if_pos h⟩
theorem dcX_n {s : ByteArray} (h : dcB s = false) : dcX s = (0, 0, 0, 0, 0) ∧ dcP s = 0 := ⟨if_neg (by rw [h]; decide), if_neg (by rw [h]; decide)⟩
theorem dma16 {l : List Mp} {ps : Pg} {d a : Int} (h : (dmaRF l ps d a 16).2 = true) : (dmaRF l ps d a 16).1.size = 16 := by
  have := dmaRF_size (l := l) (ps := ps) (d := d) (a := a) (n := 16) (t := (dmaRF l ps d a 16).1) (by rw [← h])
  omega
theorem dma_z (l : List Mp) (ps : Pg) (d a : Int) : (dmaRF l ps d a 16).1.size ≤ 1099511627776 := Nat.le_trans (dmaRF_le l ps d a 16 (by decide)) (by decide)
theorem dc_ph {l : List Mp} {ps : Pg} {d a s c : Int} (h : (dmaRF l ps d a 16).2 = true) (h2 : dcB (dmaRF l ps d a 16).1 = false) : ¬ get32 (dmaRF l ps d a 16).1 12 = phaseC s c := by
  have h1 := dma16 h
  have hp := phaseC_bd s c
  unfold dcB at h2
  rw [decide_eq_true h1, Bool.true_and, Bool.not_eq_false', decide_eq_true_eq] at h2
  omega
theorem rpu_n {l : List Mp} {ps : Pg} {d b s h t : Int} {e : ByteArray} (hh : freeF b s h t = 0 ∨ ¬ e.size = 16 ∨ (dmaWF l ps d (rslot b s t) e true).2 = false) : rputF l ps d b s h t e = (ps, t, false) := by
  unfold rputF
  split
  · rfl
  · split
    · rename_i g1 g2
      have h3 : (dmaWF l ps d (rslot b s t) e true).2 = false := by
        rcases hh with hh | hh | hh
        · exact (g1 hh).elim
        · exact (hh g2).elim
        · exact hh
      generalize dmaWF l ps d (rslot b s t) e true = x at h3 ⊢
      obtain ⟨x1, x2⟩ := x
      simp only at h3
      subst h3; rfl
    · rfl
theorem rpu_y {l : List Mp} {ps : Pg} {d b s h t : Int} {e : ByteArray} (h1 : ¬ freeF b s h t = 0) (h2 : e.size = 16) (h3 : (dmaWF l ps d (rslot b s t) e true).2 = true) : rputF l ps d b s h t e = ((dmaWF l ps d (rslot b s t) e true).1, rnext s t, true) := by
  unfold rputF
  rw [if_neg h1, if_pos h2]
  generalize dmaWF l ps d (rslot b s t) e true = x at h3 ⊢
  obtain ⟨x1, x2⟩ := x
  simp only at h3
  subst h3; rfl
set_option maxHeartbeats 4000000 in
theorem c_impl_copyInts {fr : List Int} (hl_fr : fr.length ≤ 1099511627776 := by first | with_reducible assumption | omega) : Con0 Tryz.prog 170 [.one (.sl 1 (fr.map intE))] (.one (.hs 0)) [(0, .arr 3 1 (fr.map intE))] := by
  refine con_i Tryz.func170 Tryz.ntmps170 (t := [(0, .one (.sl 1 (fr.map intE)))]) rfl ?_
  refine vc_sr ?_
  refine vo ?_
  refine vnt ?_
  refine vc_sr ?_
  iterate 4 refine vo ?_
  refine vnt ?_
  refine vc_ret ?_
  refine fin_i [(0, some 40)] rfl (fz ?_) (fz ?_) <;> first | trivial | rfl | simp
set_option maxHeartbeats 4000000 in
theorem c_impl_copyPool {pb pz pc : Int} {fr : List Int} (hl_fr : fr.length ≤ 1099511627776 := by first | with_reducible assumption | omega) : Con0 Tryz.prog 129 [.agg [V pb, V pz, V pc, .sl 1 (fr.map intE)]] (.agg [V pb, V pz, V pc, .hs 0]) [(0, .arr 3 1 (fr.map intE))] := by
  refine con_i Tryz.func129 Tryz.ntmps129 (t := [(0, .agg [V pb, V pz, V pc, .sl 1 (fr.map intE)])]) rfl ?_
  refine vc_sr ?_
  iterate 2 refine vo ?_
  refine vnt ?_
  refine vc_sr ?_
  iterate 2 refine vo ?_
  refine voc c_impl_copyInts rfl rfl ?_
  iterate 2 refine vo ?_
  refine vnt ?_
  refine vc_sr ?_
  iterate 2 refine vo ?_
  refine vnt ?_
  refine vc_ret ?_
  refine fin_i [(0, some 40)] rfl (fz ?_) (fz ?_) <;> first | trivial | rfl | simp
set_option maxHeartbeats 4000000 in
theorem c_spec_l21Copy {pb pz pc : Int} {fr : List Int} (hl_fr : fr.length ≤ 1099511627776 := by first | with_reducible assumption | omega) : Con0 Tryz.prog 116 [.agg [V pb, V pz, V pc, .sl 1 (fr.map intE)]] (.agg [V pb, V pz, V pc, .hs 0]) [(0, .arr 3 1 (fr.map intE))] := by
  refine con_i Tryz.func116 Tryz.ntmps116 (t := [(0, .agg [V pb, V pz, V pc, .sl 1 (fr.map intE)])]) rfl ?_
  refine vc_sr ?_
  iterate 2 refine vo ?_
  refine vnt ?_
  refine vc_sr ?_
  iterate 12 refine vo ?_
  refine vnt ?_
  refine vc_ret ?_
  refine fin_i [(0, some 96)] rfl (fz ?_) (fz ?_) <;> first | trivial | rfl | simp
set_option maxHeartbeats 4000000 in
theorem c_impl_PoolOk {pb pz pc : Int} {fr : List Int} (hl_fr : fr.length ≤ 1099511627776 := by first | with_reducible assumption | omega) : Con0 Tryz.prog 94 [.agg [V pb, V pz, V pc, .sl 1 (fr.map intE)]] (B (poolB pb pz pc fr)) [] := by
  refine con_i Tryz.func94 Tryz.ntmps94 (t := [(0, .agg [V pb, V pz, V pc, .sl 1 (fr.map intE)])]) rfl ?_
  refine vc_sr ?_
  iterate 2 refine vo ?_
  refine vnt ?_
  refine vc_seq' ?_
  refine vc_sr ?_
  iterate 2 refine vo ?_
  refine voc c_impl_between rfl rfl ?_
  iterate 2 refine vo ?_
  refine vsp (fun g1 => ?_) (fun g1 => ?_)
  · iterate 4 refine vof ?_
    iterate 2 refine vo ?_
    iterate 4 refine vof ?_
    refine vo ?_
    refine vnt ?_
    refine vc_then ?_
    refine vc_sr ?_
    refine vo ?_
    refine vnt ?_
    refine vc_ret ?_
    refine thn_r ?_
    refine fin_i [] rfl (fz ?_) trivial
    exact pool_no (.inl g1)
  · iterate 2 refine von ?_
    refine vocn c_impl_between rfl rfl ?_
    refine von ?_
    iterate 2 refine vo ?_
    refine vsp (fun g2 => ?_) (fun g2 => ?_)
    · iterate 4 refine vof ?_
      refine vo ?_
      refine vnt ?_
      refine vc_then ?_
      refine vc_sr ?_
      refine vo ?_
      refine vnt ?_
      refine vc_ret ?_
      refine thn_r ?_
      refine fin_i [] rfl (fz ?_) trivial
      exact pool_no (.inr (.inl g2))
    · iterate 2 refine von ?_
      refine vocn c_impl_between rfl rfl ?_
      refine von ?_
      refine vo ?_
      refine vnt ?_
      refine vc_if (fun g3 => ?_) (fun g3 => ?_)
      · refine vc_sr ?_
        refine vo ?_
        refine vnt ?_
        refine vc_ret ?_
        refine thn_r ?_
        refine fin_i [] rfl (fz ?_) trivial
        exact pool_no (.inr (.inr g3))
      · have hz3 := inB_iff.1 g3
        obtain ⟨n, rfl⟩ := Int.eq_ofNat_of_zero_le hz3.1
        refine vc_skip ?_
        refine thn ?_
        refine vc_sr ?_
        iterate 4 refine vo ?_
        refine vnt ?_
        refine vc_seq' ?_
        refine vc_sr ?_
        iterate 3 refine vo ?_
        try first | refine vlb ?_ | refine vln ?_
        refine vo ?_
        refine vnt ?_
        refine vc_block ?_
        refine vc_lp (σ := Nat) [1, 3, 26, 27] [8] (fun i => [(28, I (i : Nat))]) (fun i => [(192, .arr 4 1 ((seenF n (fr.take i)).map booE))]) (fun i => i ≤ fr.length ∧ poolG n fr i) (fun i => fr.length - i) 0 rfl rfl (sub_i [(192, some 192)] (fz ?_) (fz ?_)) ?_ fun i hI => ?_
        · first | trivial | rfl
        · first | trivial | exact (seen_nil n).symm | exact seen_nil n | (simp [seen_nil]; done) | trace_state
        · exact ⟨Nat.zero_le _, poolG_zero n fr⟩
        refine vc_nf rfl rfl ?_
        have hsl := seenF_length n (fr.take i)
        refine vc_sr ?_
        refine vo ?_
        refine vnt ?_
        refine vc_seq' ?_
        refine vc_if (fun g4 => ?_) (fun g4 => ?_)
        · refine vc_skip ?_
          refine thn ?_
          refine vc_seq' ?_
          refine vc_block ?_
          refine vc_sr ?_
          refine vo ?_
          try with_reducible (first | refine vep ?_ | refine vpt ?_)
          iterate 2 refine vo ?_
          refine vnt ?_
          refine vc_seq' ?_
          refine vc_sr ?_
          iterate 4 refine vo ?_
          try refine vwr ?_
          refine voc c_impl_between rfl rfl ?_
          iterate 2 refine vo ?_
          refine vsp (fun g5 => ?_) (fun g5 => ?_)
          · iterate 4 refine vof ?_
            refine vo ?_
            refine vnt ?_
            refine vc_then ?_
            refine vc_sr ?_
            refine vo ?_
            refine vnt ?_
            refine vc_ret ?_
            refine thn_r ?_
            refine inB_r ?_
            refine thn_r ?_
            refine thn_r ?_
            refine inB_r ?_
            refine thn_r ?_
            refine fin_i [] rfl (fz ?_) trivial
            exact pool_rng g4 g5
          · have hkb := inB_iff.1 g5
            iterate 3 refine von ?_
            try with_reducible (first | refine vep ?_ | refine vpt ?_)
            refine von ?_
            refine vo ?_
            refine vnt ?_
            refine vc_if (fun g6 => ?_) (fun g6 => ?_)
            · rw [seen_at (by omega) (by omega)] at g6
              have hct : (fr.take i).contains (at' fr i) = true := by first | exact g6 | simpa using g6
              refine vc_sr ?_
              refine vo ?_
              refine vnt ?_
              refine vc_ret ?_
              refine thn_r ?_
              refine inB_r ?_
              refine thn_r ?_
              refine thn_r ?_
              refine inB_r ?_
              refine thn_r ?_
              refine fin_i [] rfl (fz ?_) trivial
              exact pool_dup g4 hct
            · rw [seen_at (by omega) (by omega)] at g6
              have hct : (fr.take i).contains (at' fr i) = false := by first | exact g6 | simpa using g6
              refine vc_skip ?_
              refine thn ?_
              refine vc_region ?_
              iterate 3 refine vo ?_
              try with_reducible (first | refine vep ?_ | refine vpt ?_)
              refine vo ?_
              refine vnil ?_
              refine inB_n ?_
              refine thn ?_
              refine vc_region ?_
              refine vo ?_
              try refine vwr ?_
              refine vo ?_
              refine vnt ?_
              refine ⟨i + 1, ?_, ?_, sub_i [(192, some 192)] (fz ?_) (fz ?_)⟩
              · exact ⟨by omega, pool_stp g4 hI.2 g5 hct⟩
              · omega
              · first | trivial | rfl | exact ⟨rfl, rfl⟩
              · first | (rw [take_at g4]; exact (seen_set (by omega) (by omega)).symm) | (rw [take_at g4, seen_set (by omega) (by omega)]; done) | trace_state
        · refine vc_exit ?_
          refine thn_x ?_
          refine thn_x ?_
          refine inB_x ?_
          refine thn ?_
          refine vc_sr ?_
          refine vo ?_
          refine vnt ?_
          refine vc_ret ?_
          refine fin_i [] rfl (fz ?_) trivial
          exact pool_all g1 g2 g3 hI.2 hI.1 (by omega)
set_option maxHeartbeats 4000000 in
theorem c_spec_PoolOk {pb pz pc : Int} {fr : List Int} (hl_fr : fr.length ≤ 1099511627776 := by first | with_reducible assumption | omega) : Con0 Tryz.prog 118 [.agg [V pb, V pz, V pc, .sl 1 (fr.map intE)]] (B (poolB pb pz pc fr)) [] := by
  refine con_i Tryz.func118 Tryz.ntmps118 (t := [(0, .agg [V pb, V pz, V pc, .sl 1 (fr.map intE)])]) rfl ?_
  refine vc_sr ?_
  iterate 2 refine vo ?_
  refine vnt ?_
  refine vc_seq' ?_
  refine vc_sr ?_
  iterate 2 refine vo ?_
  refine voc c_spec_l01In rfl rfl ?_
  iterate 2 refine vo ?_
  refine vsp (fun g1 => ?_) (fun g1 => ?_)
  · iterate 4 refine vof ?_
    iterate 2 refine vo ?_
    iterate 4 refine vof ?_
    refine vo ?_
    refine vnt ?_
    refine vc_then ?_
    refine vc_sr ?_
    refine vo ?_
    refine vnt ?_
    refine vc_ret ?_
    refine thn_r ?_
    refine fin_i [] rfl (fz ?_) trivial
    exact pool_no (.inl g1)
  · iterate 2 refine von ?_
    refine vocn c_spec_l01In rfl rfl ?_
    refine von ?_
    iterate 2 refine vo ?_
    refine vsp (fun g2 => ?_) (fun g2 => ?_)
    · iterate 4 refine vof ?_
      refine vo ?_
      refine vnt ?_
      refine vc_then ?_
      refine vc_sr ?_
      refine vo ?_
      refine vnt ?_
      refine vc_ret ?_
      refine thn_r ?_
      refine fin_i [] rfl (fz ?_) trivial
      exact pool_no (.inr (.inl g2))
    · iterate 2 refine von ?_
      refine vocn c_spec_l01In rfl rfl ?_
      refine von ?_
      refine vo ?_
      refine vnt ?_
      refine vc_if (fun g3 => ?_) (fun g3 => ?_)
      · refine vc_sr ?_
        refine vo ?_
        refine vnt ?_
        refine vc_ret ?_
        refine thn_r ?_
        refine fin_i [] rfl (fz ?_) trivial
        exact pool_no (.inr (.inr g3))
      · have hz3 := inB_iff.1 g3
        obtain ⟨n, rfl⟩ := Int.eq_ofNat_of_zero_le hz3.1
        refine vc_skip ?_
        refine thn ?_
        refine vc_sr ?_
        iterate 4 refine vo ?_
        refine vnt ?_
        refine vc_seq' ?_
        refine vc_sr ?_
        refine vo ?_
        refine vnt ?_
        refine vc_block ?_
        refine vc_lp (σ := Nat) [1, 3] [8] (fun i => [(4, I (i : Nat))]) (fun i => [(184, .arr 4 1 ((seenF n (fr.take i)).map booE))]) (fun i => i ≤ fr.length ∧ poolG n fr i) (fun i => fr.length - i) 0 rfl rfl (sub_i [(184, some 184)] (fz ?_) (fz ?_)) ?_ fun i hI => ?_
        · first | trivial | rfl
        · first | trivial | exact (seen_nil n).symm | exact seen_nil n | (simp [seen_nil]; done) | trace_state
        · exact ⟨Nat.zero_le _, poolG_zero n fr⟩
        refine vc_nf rfl rfl ?_
        have hsl := seenF_length n (fr.take i)
        refine vc_seq' ?_
        refine vc_sr ?_
        iterate 4 refine vo ?_
        try first | refine vlb ?_ | refine vln ?_
        refine vo ?_
        refine vnt ?_
        refine vc_if (fun g4 => ?_) (fun g4 => ?_)
        · refine vc_skip ?_
          refine thn ?_
          refine vc_seq' ?_
          refine vc_block ?_
          refine vc_seq' ?_
          refine vc_sr ?_
          iterate 4 refine vo ?_
          try with_reducible (first | refine vep ?_ | refine vpt ?_)
          iterate 4 refine vo ?_
          try refine vwr ?_
          refine voc c_spec_l01In rfl rfl ?_
          iterate 2 refine vo ?_
          refine vsp (fun g5 => ?_) (fun g5 => ?_)
          · iterate 8 refine vof ?_
            refine vo ?_
            refine vnt ?_
            refine vc_then ?_
            refine vc_sr ?_
            refine vo ?_
            refine vnt ?_
            refine vc_ret ?_
            refine thn_r ?_
            refine inB_r ?_
            refine thn_r ?_
            refine thn_r ?_
            refine inB_r ?_
            refine thn_r ?_
            refine fin_i [] rfl (fz ?_) trivial
            exact pool_rng g4 g5
          · have hkb := inB_iff.1 g5
            iterate 5 refine von ?_
            try with_reducible (first | refine vep ?_ | refine vpt ?_)
            iterate 2 refine von ?_
            try with_reducible (first | refine vep ?_ | refine vpt ?_)
            refine von ?_
            refine vo ?_
            refine vnt ?_
            refine vc_if (fun g6 => ?_) (fun g6 => ?_)
            · rw [seen_at (by omega) (by omega)] at g6
              have hct : (fr.take i).contains (at' fr i) = true := by first | exact g6 | simpa using g6
              refine vc_sr ?_
              refine vo ?_
              refine vnt ?_
              refine vc_ret ?_
              refine thn_r ?_
              refine inB_r ?_
              refine thn_r ?_
              refine thn_r ?_
              refine inB_r ?_
              refine thn_r ?_
              refine fin_i [] rfl (fz ?_) trivial
              exact pool_dup g4 hct
            · rw [seen_at (by omega) (by omega)] at g6
              have hct : (fr.take i).contains (at' fr i) = false := by first | exact g6 | simpa using g6
              refine vc_skip ?_
              refine thn ?_
              refine vc_region ?_
              iterate 5 refine vo ?_
              try with_reducible (first | refine vep ?_ | refine vpt ?_)
              iterate 2 refine vo ?_
              try with_reducible (first | refine vep ?_ | refine vpt ?_)
              refine vo ?_
              refine vnil ?_
              refine inB_n ?_
              refine thn ?_
              refine vc_region ?_
              iterate 2 refine vo ?_
              try refine vwr ?_
              refine vo ?_
              refine vnt ?_
              refine ⟨i + 1, ?_, ?_, sub_i [(184, some 184)] (fz ?_) (fz ?_)⟩
              · exact ⟨by omega, pool_stp g4 hI.2 g5 hct⟩
              · omega
              · first | trivial | rfl | exact ⟨rfl, rfl⟩
              · first | (rw [take_at g4]; exact (seen_set (by omega) (by omega)).symm) | (rw [take_at g4, seen_set (by omega) (by omega)]; done) | trace_state
        · refine vc_exit ?_
          refine thn_x ?_
          refine thn_x ?_
          refine inB_x ?_
          refine thn ?_
          refine vc_sr ?_
          refine vo ?_
          refine vnt ?_
          refine vc_ret ?_
          refine fin_i [] rfl (fz ?_) trivial
          exact pool_all g1 g2 g3 hI.2 hI.1 (by omega)
set_option maxHeartbeats 4000000 in
theorem c_impl_BufferAddress {pb pz pc k : Int} {fr : List Int} (hl_fr : fr.length ≤ 1099511627776 := by first | with_reducible assumption | omega) : Con0 Tryz.prog 134 [.agg [V pb, V pz, V pc, .sl 1 (fr.map intE)], I k] (I (bufA pb pz pc fr k)) [] := by
  refine con_i Tryz.func134 Tryz.ntmps134 (t := [(0, .agg [V pb, V pz, V pc, .sl 1 (fr.map intE)]), (1, I k)]) rfl ?_
  refine vc_sr ?_
  iterate 2 refine vo ?_
  refine vnt ?_
  refine vc_seq' ?_
  refine vc_sr ?_
  refine vo ?_
  refine voc c_impl_PoolOk rfl rfl ?_
  iterate 2 refine vo ?_
  refine vsp (fun g1 => ?_) (fun g1 => ?_)
  · iterate 6 refine vof ?_
    refine vo ?_
    refine vnt ?_
    refine vc_then ?_
    refine vc_sr ?_
    refine vo ?_
    refine vnt ?_
    refine vc_ret ?_
    refine thn_r ?_
    refine fin_i [] rfl (fz ?_) trivial
    rw [bufA_n (.inl g1)]
  · have hpf := poolB_facts g1
    iterate 4 refine von ?_
    try refine vwr ?_
    refine vocn c_impl_between rfl rfl ?_
    refine von ?_
    refine vo ?_
    refine vnt ?_
    refine vc_if (fun g2 => ?_) (fun g2 => ?_)
    · refine vc_sr ?_
      refine vo ?_
      refine vnt ?_
      refine vc_ret ?_
      refine thn_r ?_
      refine fin_i [] rfl (fz ?_) trivial
      rw [bufA_n (.inr g2)]
    · have hba := bufA_y g1 g2
      refine vc_skip ?_
      refine thn ?_
      refine vc_sr ?_
      iterate 6 refine vo ?_
      try refine vwr ?_
      refine vo ?_
      try refine vwr ?_
      refine vo ?_
      refine vnt ?_
      refine vc_ret ?_
      refine fin_i [] rfl (fz ?_) trivial
      exact hba.1
set_option maxHeartbeats 4000000 in
theorem c_impl_GiveBuffers {pb pz pc : Int} {fr ks : List Int} (hl_fr : fr.length ≤ 1000000000 := by first | with_reducible assumption | omega) (hl_ks : ks.length ≤ 1000000000 := by first | with_reducible assumption | omega) : Con0 Tryz.prog 95 [.agg [V pb, V pz, V pc, .sl 1 (fr.map intE)], .one (.sl 1 (ks.map intE))] (.tup [.agg [V pb, V pz, V pc, .hs 0], B (giveB pb pz pc fr ks)]) [(0, .arr 3 1 ((giveF pb pz pc fr ks).map intE))] := by
  have hla : (fr ++ ks).length = fr.length + ks.length := List.length_append
  refine con_i Tryz.func95 Tryz.ntmps95 (t := [(0, .agg [V pb, V pz, V pc, .sl 1 (fr.map intE)]), (1, .one (.sl 1 (ks.map intE)))]) rfl ?_
  refine vc_sr ?_
  iterate 3 refine vo ?_
  refine vnt ?_
  refine vc_sr ?_
  refine vo ?_
  refine voc c_impl_copyPool rfl rfl ?_
  iterate 2 refine vo ?_
  refine vnt ?_
  refine vc_sr ?_
  iterate 4 refine vo ?_
  rw [← List.map_append]
  iterate 2 refine vo ?_
  refine vnt ?_
  refine vc_seq' ?_
  refine vc_sr ?_
  refine vo ?_
  refine voc c_impl_PoolOk rfl rfl ?_
  iterate 2 refine vo ?_
  refine vsp (fun g1 => ?_) (fun g1 => ?_)
  · iterate 3 refine vof ?_
    refine vo ?_
    refine vnt ?_
    refine vc_then ?_
    refine vc_sr ?_
    refine vo ?_
    refine voc c_impl_copyPool rfl rfl ?_
    iterate 2 refine vo ?_
    refine vnt ?_
    refine vc_ret ?_
    refine thn_r ?_
    have hh := give_n (pb := pb) (pz := pz) (pc := pc) (fr := fr) (ks := ks) (.inl g1)
    refine fin_i [(0, some 184)] rfl (fz ?_) (fz ?_)
    · rw [hh.2]
    · first | (rw [hh.1]; done) | (rw [hh.1]; simp)
  · refine von ?_
    refine vocn c_impl_PoolOk rfl rfl ?_
    refine von ?_
    refine vo ?_
    refine vnt ?_
    refine vc_if (fun g2 => ?_) (fun g2 => ?_)
    · refine vc_sr ?_
      refine vo ?_
      refine voc c_impl_copyPool rfl rfl ?_
      iterate 2 refine vo ?_
      refine vnt ?_
      refine vc_ret ?_
      refine thn_r ?_
      have hh := give_n (pb := pb) (pz := pz) (pc := pc) (fr := fr) (ks := ks) (.inr g2)
      refine fin_i [(0, some 184)] rfl (fz ?_) (fz ?_)
      · rw [hh.2]
      · first | (rw [hh.1]; done) | (rw [hh.1]; simp)
    · refine vc_skip ?_
      refine thn ?_
      refine vc_sr ?_
      iterate 3 refine vo ?_
      refine vnt ?_
      refine vc_ret ?_
      have hh := give_y (pb := pb) (pz := pz) (pc := pc) (fr := fr) (ks := ks) g1 g2
      refine fin_i [(0, some 96)] rfl (fz ?_) (fz ?_)
      · rw [hh.2]
      · first | (rw [hh.1]; done) | (rw [hh.1]; simp)
set_option maxHeartbeats 4000000 in
theorem c_spec_BufferAddress {pb pz pc k : Int} {fr : List Int} (hl_fr : fr.length ≤ 1099511627776 := by first | with_reducible assumption | omega) : Con0 Tryz.prog 67 [.agg [V pb, V pz, V pc, .sl 1 (fr.map intE)], I k] (I (bufA pb pz pc fr k)) [] := by
  refine con_i Tryz.func67 Tryz.ntmps67 (t := [(0, .agg [V pb, V pz, V pc, .sl 1 (fr.map intE)]), (1, I k)]) rfl ?_
  refine vc_sr ?_
  iterate 2 refine vo ?_
  refine vnt ?_
  refine vc_seq' ?_
  refine vc_sr ?_
  refine vo ?_
  refine voc c_spec_PoolOk rfl rfl ?_
  iterate 2 refine vo ?_
  refine vsp (fun g1 => ?_) (fun g1 => ?_)
  · iterate 6 refine vof ?_
    refine vo ?_
    refine vnt ?_
    refine vc_then ?_
    refine vc_sr ?_
    refine vo ?_
    refine vnt ?_
    refine vc_ret ?_
    refine thn_r ?_
    refine fin_i [] rfl (fz ?_) trivial
    rw [bufA_n (.inl g1)]
  · have hpf := poolB_facts g1
    iterate 4 refine von ?_
    try refine vwr ?_
    refine vocn c_spec_l01In rfl rfl ?_
    refine von ?_
    refine vo ?_
    refine vnt ?_
    refine vc_if (fun g2 => ?_) (fun g2 => ?_)
    · refine vc_sr ?_
      refine vo ?_
      refine vnt ?_
      refine vc_ret ?_
      refine thn_r ?_
      refine fin_i [] rfl (fz ?_) trivial
      rw [bufA_n (.inr g2)]
    · have hba := bufA_y g1 g2
      refine vc_skip ?_
      refine thn ?_
      refine vc_sr ?_
      iterate 6 refine vo ?_
      try refine vwr ?_
      refine vo ?_
      try refine vwr ?_
      refine vo ?_
      refine vnt ?_
      refine vc_ret ?_
      refine fin_i [] rfl (fz ?_) trivial
      exact hba.1
set_option maxHeartbeats 4000000 in
theorem c_spec_GiveBuffers {pb pz pc : Int} {fr ks : List Int} (hl_fr : fr.length ≤ 1000000000 := by first | with_reducible assumption | omega) (hl_ks : ks.length ≤ 1000000000 := by first | with_reducible assumption | omega) : Con0 Tryz.prog 123 [.agg [V pb, V pz, V pc, .sl 1 (fr.map intE)], .one (.sl 1 (ks.map intE))] (.tup [.agg [V pb, V pz, V pc, .hs 0], B (giveB pb pz pc fr ks)]) [(0, .arr 3 1 ((giveF pb pz pc fr ks).map intE))] := by
  have hla : (fr ++ ks).length = fr.length + ks.length := List.length_append
  refine con_i Tryz.func123 Tryz.ntmps123 (t := [(0, .agg [V pb, V pz, V pc, .sl 1 (fr.map intE)]), (1, .one (.sl 1 (ks.map intE)))]) rfl ?_
  refine vc_sr ?_
  iterate 3 refine vo ?_
  refine vnt ?_
  refine vc_sr ?_
  refine vo ?_
  refine voc c_spec_l21Copy rfl rfl ?_
  iterate 2 refine vo ?_
  refine vnt ?_
  refine vc_sr ?_
  iterate 4 refine vo ?_
  rw [← List.map_append]
  iterate 2 refine vo ?_
  refine vnt ?_
  refine vc_seq' ?_
  refine vc_sr ?_
  refine vo ?_
  refine voc c_spec_PoolOk rfl rfl ?_
  iterate 2 refine vo ?_
  refine vsp (fun g1 => ?_) (fun g1 => ?_)
  · iterate 3 refine vof ?_
    refine vo ?_
    refine vnt ?_
    refine vc_then ?_
    refine vc_sr ?_
    refine vo ?_
    refine voc c_spec_l21Copy rfl rfl ?_
    iterate 2 refine vo ?_
    refine vnt ?_
    refine vc_ret ?_
    refine thn_r ?_
    have hh := give_n (pb := pb) (pz := pz) (pc := pc) (fr := fr) (ks := ks) (.inl g1)
    refine fin_i [(0, some 184)] rfl (fz ?_) (fz ?_)
    · rw [hh.2]
    · first | (rw [hh.1]; done) | (rw [hh.1]; simp)
  · refine von ?_
    refine vocn c_spec_PoolOk rfl rfl ?_
    refine von ?_
    refine vo ?_
    refine vnt ?_
    refine vc_if (fun g2 => ?_) (fun g2 => ?_)
    · refine vc_sr ?_
      refine vo ?_
      refine voc c_spec_l21Copy rfl rfl ?_
      iterate 2 refine vo ?_
      refine vnt ?_
      refine vc_ret ?_
      refine thn_r ?_
      have hh := give_n (pb := pb) (pz := pz) (pc := pc) (fr := fr) (ks := ks) (.inr g2)
      refine fin_i [(0, some 184)] rfl (fz ?_) (fz ?_)
      · rw [hh.2]
      · first | (rw [hh.1]; done) | (rw [hh.1]; simp)
    · refine vc_skip ?_
      refine thn ?_
      refine vc_sr ?_
      iterate 3 refine vo ?_
      refine vnt ?_
      refine vc_ret ?_
      have hh := give_y (pb := pb) (pz := pz) (pc := pc) (fr := fr) (ks := ks) g1 g2
      refine fin_i [(0, some 96)] rfl (fz ?_) (fz ?_)
      · rw [hh.2]
      · first | (rw [hh.1]; done) | (rw [hh.1]; simp)
set_option maxHeartbeats 4000000 in
theorem c_impl_DecodeCompletion {s : ByteArray} (hs_s : s.size ≤ 1099511627776 := by first | with_reducible assumption | omega | (simp only [ByteArray.size_append, ByteArray.size_extract, strOfNums_size, List.length_cons, List.length_nil]; omega)) : Con0 Tryz.prog 206 [Z s] (.tup [.agg [V (dcX s).1, V (dcX s).2.1, V (dcX s).2.2.1, V (dcX s).2.2.2.1, V (dcX s).2.2.2.2], I (dcP s), B (dcB s)]) [] := by
  refine con_i Tryz.func206 Tryz.ntmps206 (t := [(0, Z s)]) rfl ?_
  refine vc_sr ?_
  iterate 3 refine vo ?_
  refine vnt ?_
  refine vc_seq' ?_
  refine vc_sr ?_
  iterate 3 refine vo ?_
  refine vnt ?_
  refine vc_if (fun g1 => ?_) (fun g1 => ?_)
  · refine vc_sr ?_
    iterate 4 refine vo ?_
    refine vnt ?_
    refine vc_ret ?_
    refine thn_r ?_
    refine fin_i [] rfl (fz ?_) trivial
    have hb := dc_n (s := s) (.inl (by omega))
    rw [(dcX_n hb).1, (dcX_n hb).2, hb]
    first | exact ⟨⟨rfl, rfl, rfl, rfl, rfl⟩, rfl, rfl⟩ | simp
  · refine vc_skip ?_
    refine thn ?_
    refine vc_sr ?_
    refine vo ?_
    refine voc c_impl_Get16 rfl rfl ?_
    refine vo ?_
    refine voc c_impl_Get16 rfl rfl ?_
    refine vo ?_
    refine voc c_impl_Get16 rfl rfl ?_
    refine vo ?_
    refine voc c_impl_Get16 rfl rfl ?_
    refine vo ?_
    refine voc c_impl_Get32 rfl rfl ?_
    iterate 3 refine vo ?_
    refine vnt ?_
    refine vc_sr ?_
    refine vo ?_
    refine voc c_impl_Get32 rfl rfl ?_
    refine vo ?_
    refine vnt ?_
    refine vc_seq' ?_
    refine vc_sr ?_
    iterate 2 refine vo ?_
    refine vnt ?_
    refine vc_if (fun g2 => ?_) (fun g2 => ?_)
    · refine vc_sr ?_
      iterate 4 refine vo ?_
      refine vnt ?_
      refine vc_ret ?_
      refine thn_r ?_
      refine fin_i [] rfl (fz ?_) trivial
      have hb := dc_n (s := s) (.inr (by omega))
      rw [(dcX_n hb).1, (dcX_n hb).2, hb]
      first | exact ⟨⟨rfl, rfl, rfl, rfl, rfl⟩, rfl, rfl⟩ | simp
    · refine vc_skip ?_
      refine thn ?_
      refine vc_sr ?_
      iterate 5 refine vo ?_
      refine vnt ?_
      refine vc_ret ?_
      refine fin_i [] rfl (fz ?_) trivial
      have hb := dc_y (s := s) (by omega) (by omega)
      rw [(dcX_y hb).1, (dcX_y hb).2, hb]
      first | exact ⟨⟨rfl, rfl, rfl, rfl, rfl⟩, rfl, rfl⟩ | simp [dcC]
set_option maxHeartbeats 4000000 in
theorem c_impl_NextCompletion {l : List Mp} {ps : Pg} {d b s c : Int} (hl : l.length ≤ 1099511627776 := by first | with_reducible assumption | omega) (hp : ps.length ≤ 1099511627776 := by first | with_reducible assumption | omega) : Con0 Tryz.prog 132 [.one (.sl 4 (l.map mpE)), .agg [.sl 1 (ps.map strE)], I d, .agg [V b, V s, V c]] (.tup [.agg [V (nextF l ps d b s c).1.1, V (nextF l ps d b s c).1.2.1, V (nextF l ps d b s c).1.2.2.1, V (nextF l ps d b s c).1.2.2.2.1, V (nextF l ps d b s c).1.2.2.2.2], .agg [V b, V s, V (nextF l ps d b s c).2.1], B (nextF l ps d b s c).2.2]) [] := by
  have hdz := dma_z l ps d (slotC b s c)
  refine con_i Tryz.func132 Tryz.ntmps132 (t := [(0, .one (.sl 4 (l.map mpE))), (1, .agg [.sl 1 (ps.map strE)]), (2, I d), (3, .agg [V b, V s, V c])]) rfl ?_
  refine vc_sr ?_
  iterate 5 refine vo ?_
  refine vnt ?_
  refine vc_seq' ?_
  refine vc_sr ?_
  refine vo ?_
  refine voc c_impl_QueueOk rfl rfl ?_
  refine vo ?_
  refine vnt ?_
  refine vc_if (fun g1 => ?_) (fun g1 => ?_)
  · refine vc_sr ?_
    iterate 5 refine vo ?_
    refine vnt ?_
    refine vc_ret ?_
    refine thn_r ?_
    refine fin_i [] rfl (fz ?_) trivial
    have hh : nextF l ps d b s c = _ := nx_n (.inl g1)
    rw [hh]
    first | exact ⟨⟨rfl, rfl, rfl, rfl, rfl⟩, rfl, rfl⟩ | simp [nextC]
  · have hq := slot_q g1
    have hqf := queueOk_facts g1
    have hsl := slotC_bd g1
    refine vc_skip ?_
    refine thn ?_
    refine vc_sr ?_
    iterate 4 refine vo ?_
    refine voc c_impl_slotOfCount rfl rfl ?_
    refine voc c_impl_DmaRead rfl rfl ?_
    iterate 5 refine vo ?_
    refine vnt ?_
    refine vc_seq' ?_
    refine vc_sr ?_
    iterate 2 refine vo ?_
    refine vnt ?_
    refine vc_if (fun g2 => ?_) (fun g2 => ?_)
    · refine vc_sr ?_
      iterate 5 refine vo ?_
      refine vnt ?_
      refine vc_ret ?_
      refine thn_r ?_
      refine fin_i [] rfl (fz ?_) trivial
      have hh : nextF l ps d b s c = _ := nx_n (.inr (.inl g2))
      rw [hh]
      first | exact ⟨⟨rfl, rfl, rfl, rfl, rfl⟩, rfl, rfl⟩ | simp [nextC]
    · refine vc_skip ?_
      refine thn ?_
      refine vc_sr ?_
      refine vo ?_
      refine voc c_impl_DecodeCompletion rfl rfl ?_
      iterate 8 refine vo ?_
      refine vnt ?_
      refine vc_seq' ?_
      refine vc_sr ?_
      iterate 3 refine vo ?_
      refine vsp (fun g3 => ?_) (fun g3 => ?_)
      · iterate 4 refine vof ?_
        refine vo ?_
        refine vnt ?_
        refine vc_then ?_
        refine vc_sr ?_
        iterate 5 refine vo ?_
        refine vnt ?_
        refine vc_ret ?_
        refine thn_r ?_
        refine fin_i [] rfl (fz ?_) trivial
        have hh : nextF l ps d b s c = _ := nx_n (.inr (.inr (dc_ph g2 g3)))
        rw [hh]
        first | exact ⟨⟨rfl, rfl, rfl, rfl, rfl⟩, rfl, rfl⟩ | simp [nextC]
      · rw [(dcX_y g3).1, (dcX_y g3).2]
        iterate 2 refine von ?_
        refine vocn c_impl_phaseOf rfl rfl ?_
        refine von ?_
        refine vo ?_
        refine vnt ?_
        refine vc_if (fun g4 => ?_) (fun g4 => ?_)
        · refine vc_sr ?_
          iterate 5 refine vo ?_
          refine vnt ?_
          refine vc_ret ?_
          refine thn_r ?_
          refine fin_i [] rfl (fz ?_) trivial
          have hh : nextF l ps d b s c = _ := nx_n (.inr (.inr g4))
          rw [hh]
          first | exact ⟨⟨rfl, rfl, rfl, rfl, rfl⟩, rfl, rfl⟩ | simp [nextC]
        · refine vc_skip ?_
          refine thn ?_
          refine vc_sr ?_
          iterate 3 refine vo ?_
          try refine vwr ?_
          iterate 3 refine vo ?_
          try refine vwr ?_
          refine vo ?_
          try refine veq (Int.tmod_eq_emod_of_nonneg (by omega)) ?_
          iterate 2 refine vo ?_
          refine vnt ?_
          refine vc_sr ?_
          iterate 5 refine vo ?_
          refine vnt ?_
          refine vc_ret ?_
          refine fin_i [] rfl (fz ?_) trivial
          have hh : nextF l ps d b s c = _ := nx_y g1 g2 g4
          rw [hh]
          first | exact ⟨⟨rfl, rfl, rfl, rfl, rfl⟩, rfl, rfl⟩ | simp [nextC]
set_option maxHeartbeats 4000000 in
theorem c_spec_DecodeCompletion {s : ByteArray} (hs_s : s.size ≤ 1099511627776 := by first | with_reducible assumption | omega | (simp only [ByteArray.size_append, ByteArray.size_extract, strOfNums_size, List.length_cons, List.length_nil]; omega)) : Con0 Tryz.prog 194 [Z s] (.tup [.agg [V (dcX s).1, V (dcX s).2.1, V (dcX s).2.2.1, V (dcX s).2.2.2.1, V (dcX s).2.2.2.2], I (dcP s), B (dcB s)]) [] := by
  refine con_i Tryz.func194 Tryz.ntmps194 (t := [(0, Z s)]) rfl ?_
  refine vc_sr ?_
  iterate 3 refine vo ?_
  refine vnt ?_
  refine vc_seq' ?_
  refine vc_sr ?_
  iterate 4 refine vo ?_
  refine vsp (fun g1 => ?_) (fun g1 => ?_)
  · iterate 3 refine vof ?_
    refine vo ?_
    refine vnt ?_
    refine vc_then ?_
    refine vc_sr ?_
    iterate 4 refine vo ?_
    refine vnt ?_
    refine vc_ret ?_
    refine thn_r ?_
    refine fin_i [] rfl (fz ?_) trivial
    have hb := dc_n (s := s) (.inl (by omega))
    rw [(dcX_n hb).1, (dcX_n hb).2, hb]
    first | exact ⟨⟨rfl, rfl, rfl, rfl, rfl⟩, rfl, rfl⟩ | simp
  · refine von ?_
    refine vocn c_spec_Get32 rfl rfl ?_
    refine von ?_
    refine vo ?_
    refine vnt ?_
    refine vc_if (fun g2 => ?_) (fun g2 => ?_)
    · refine vc_sr ?_
      iterate 4 refine vo ?_
      refine vnt ?_
      refine vc_ret ?_
      refine thn_r ?_
      refine fin_i [] rfl (fz ?_) trivial
      have hb := dc_n (s := s) (.inr (by omega))
      rw [(dcX_n hb).1, (dcX_n hb).2, hb]
      first | exact ⟨⟨rfl, rfl, rfl, rfl, rfl⟩, rfl, rfl⟩ | simp
    · refine vc_skip ?_
      refine thn ?_
      refine vc_sr ?_
      refine vo ?_
      refine voc c_spec_Get16 rfl rfl ?_
      refine vo ?_
      refine voc c_spec_Get16 rfl rfl ?_
      refine vo ?_
      refine voc c_spec_Get16 rfl rfl ?_
      refine vo ?_
      refine voc c_spec_Get16 rfl rfl ?_
      refine vo ?_
      refine voc c_spec_Get32 rfl rfl ?_
      iterate 2 refine vo ?_
      refine voc c_spec_Get32 rfl rfl ?_
      iterate 3 refine vo ?_
      refine vnt ?_
      refine vc_ret ?_
      refine fin_i [] rfl (fz ?_) trivial
      have hb := dc_y (s := s) (by omega) (by omega)
      rw [(dcX_y hb).1, (dcX_y hb).2, hb]
      first | exact ⟨⟨rfl, rfl, rfl, rfl, rfl⟩, rfl, rfl⟩ | simp [dcC]
set_option maxHeartbeats 4000000 in
theorem c_spec_NextCompletion {l : List Mp} {ps : Pg} {d b s c : Int} (hl : l.length ≤ 1099511627776 := by first | with_reducible assumption | omega) (hp : ps.length ≤ 1099511627776 := by first | with_reducible assumption | omega) : Con0 Tryz.prog 119 [.one (.sl 4 (l.map mpE)), .agg [.sl 1 (ps.map strE)], I d, .agg [V b, V s, V c]] (.tup [.agg [V (nextF l ps d b s c).1.1, V (nextF l ps d b s c).1.2.1, V (nextF l ps d b s c).1.2.2.1, V (nextF l ps d b s c).1.2.2.2.1, V (nextF l ps d b s c).1.2.2.2.2], .agg [V b, V s, V (nextF l ps d b s c).2.1], B (nextF l ps d b s c).2.2]) [] := by
  have hdz := dma_z l ps d (slotC b s c)
  refine con_i Tryz.func119 Tryz.ntmps119 (t := [(0, .one (.sl 4 (l.map mpE))), (1, .agg [.sl 1 (ps.map strE)]), (2, I d), (3, .agg [V b, V s, V c])]) rfl ?_
  refine vc_sr ?_
  iterate 5 refine vo ?_
  refine vnt ?_
  refine vc_seq' ?_
  refine vc_sr ?_
  refine vo ?_
  refine voc c_spec_QueueOk rfl rfl ?_
  refine vo ?_
  refine vnt ?_
  refine vc_if (fun g1 => ?_) (fun g1 => ?_)
  · refine vc_sr ?_
    iterate 5 refine vo ?_
    refine vnt ?_
    refine vc_ret ?_
    refine thn_r ?_
    refine fin_i [] rfl (fz ?_) trivial
    have hh : nextF l ps d b s c = _ := nx_n (.inl g1)
    rw [hh]
    first | exact ⟨⟨rfl, rfl, rfl, rfl, rfl⟩, rfl, rfl⟩ | simp [nextC]
  · have hq := slot_q g1
    have hqf := queueOk_facts g1
    have hsl := slotC_bd g1
    refine vc_skip ?_
    refine thn ?_
    refine vc_sr ?_
    iterate 10 refine vo ?_
    try refine veq (Int.tmod_eq_emod_of_nonneg (by omega)) ?_
    refine vo ?_
    try refine vwr ?_
    refine vo ?_
    try refine vwr ?_
    refine veq (show b + 16 * (c % s) = slotC b s c by unfold slotC; omega) ?_
    refine voc c_spec_DmaRead rfl rfl ?_
    iterate 5 refine vo ?_
    refine vnt ?_
    refine vc_sr ?_
    refine vo ?_
    refine voc c_spec_DecodeCompletion rfl rfl ?_
    iterate 8 refine vo ?_
    refine vnt ?_
    refine vc_seq' ?_
    refine vc_sr ?_
    iterate 3 refine vo ?_
    refine vsp (fun g2 => ?_) (fun g2 => ?_)
    · iterate 2 refine vof ?_
      iterate 2 refine vo ?_
      iterate 4 refine vof ?_
      refine vo ?_
      refine vnt ?_
      refine vc_then ?_
      refine vc_sr ?_
      iterate 5 refine vo ?_
      refine vnt ?_
      refine vc_ret ?_
      refine thn_r ?_
      refine fin_i [] rfl (fz ?_) trivial
      have hh : nextF l ps d b s c = _ := nx_n (.inr (.inl g2))
      rw [hh]
      first | exact ⟨⟨rfl, rfl, rfl, rfl, rfl⟩, rfl, rfl⟩ | simp [nextC]
    · iterate 2 refine von ?_
      iterate 2 refine vo ?_
      refine vsp (fun g3 => ?_) (fun g3 => ?_)
      · iterate 4 refine vof ?_
        refine vo ?_
        refine vnt ?_
        refine vc_then ?_
        refine vc_sr ?_
        iterate 5 refine vo ?_
        refine vnt ?_
        refine vc_ret ?_
        refine thn_r ?_
        refine fin_i [] rfl (fz ?_) trivial
        have hh : nextF l ps d b s c = _ := nx_n (.inr (.inr (dc_ph g2 g3)))
        rw [hh]
        first | exact ⟨⟨rfl, rfl, rfl, rfl, rfl⟩, rfl, rfl⟩ | simp [nextC]
      · rw [(dcX_y g3).1, (dcX_y g3).2]
        iterate 2 refine von ?_
        refine vocn c_spec_l25Phase rfl rfl ?_
        refine von ?_
        refine vo ?_
        refine vnt ?_
        refine vc_if (fun g4 => ?_) (fun g4 => ?_)
        · refine vc_sr ?_
          iterate 5 refine vo ?_
          refine vnt ?_
          refine vc_ret ?_
          refine thn_r ?_
          refine fin_i [] rfl (fz ?_) trivial
          have hh : nextF l ps d b s c = _ := nx_n (.inr (.inr g4))
          rw [hh]
          first | exact ⟨⟨rfl, rfl, rfl, rfl, rfl⟩, rfl, rfl⟩ | simp [nextC]
        · refine vc_skip ?_
          refine thn ?_
          refine vc_sr ?_
          iterate 3 refine vo ?_
          try refine vwr ?_
          iterate 3 refine vo ?_
          try refine vwr ?_
          refine vo ?_
          try refine veq (Int.tmod_eq_emod_of_nonneg (by omega)) ?_
          iterate 2 refine vo ?_
          refine vnt ?_
          refine vc_sr ?_
          iterate 5 refine vo ?_
          refine vnt ?_
          refine vc_ret ?_
          refine fin_i [] rfl (fz ?_) trivial
          have hh : nextF l ps d b s c = _ := nx_y g1 g2 g4
          rw [hh]
          first | exact ⟨⟨rfl, rfl, rfl, rfl, rfl⟩, rfl, rfl⟩ | simp [nextC]
set_option maxHeartbeats 4000000 in
theorem c_impl_RingFree {b s h t : Int} : Con0 Tryz.prog 77 [.agg [V b, V s, V h, V t]] (I (freeF b s h t)) [] := by
  refine con_i Tryz.func77 Tryz.ntmps77 (t := [(0, .agg [V b, V s, V h, V t])]) rfl ?_
  refine vc_sr ?_
  iterate 2 refine vo ?_
  refine vnt ?_
  refine vc_seq' ?_
  refine vc_sr ?_
  refine vo ?_
  refine voc c_impl_RingOk rfl rfl ?_
  refine vo ?_
  refine vnt ?_
  refine vc_if (fun g1 => ?_) (fun g1 => ?_)
  · refine vc_sr ?_
    refine vo ?_
    refine vnt ?_
    refine vc_ret ?_
    refine thn_r ?_
    refine fin_i [] rfl (fz ?_) trivial
    rw [freeF, g1]
    simp
  · have hr := ringOk_facts g1
    have hs0 := hr.1
    have hub : 0 ≤ usedF s h t ∧ usedF s h t ≤ 16 := by unfold usedF; have hsz := sizeB_cases hs0; omega
    refine vc_skip ?_
    refine thn ?_
    refine vc_sr ?_
    iterate 3 refine vo ?_
    refine voc c_impl_RingUsed rfl rfl ?_
    refine vo ?_
    try refine vwr ?_
    refine vo ?_
    refine vnt ?_
    refine vc_ret ?_
    refine fin_i [] rfl (fz ?_) trivial
    rw [freeF, g1]
    simp [usedF]
set_option maxHeartbeats 4000000 in
theorem c_impl_RingPut {l : List Mp} {ps : Pg} {d b s h t : Int} {e : ByteArray} (hl : l.length ≤ 1099511627776 := by first | with_reducible assumption | omega) (hp : ps.length ≤ 1099511627776 := by first | with_reducible assumption | omega) (hs_e : e.size ≤ 1099511627776 := by first | with_reducible assumption | omega | (simp only [ByteArray.size_append, ByteArray.size_extract, strOfNums_size, List.length_cons, List.length_nil]; omega)) : Con0 Tryz.prog 175 [.one (.sl 4 (l.map mpE)), .agg [.sl 1 (ps.map strE)], I d, .agg [V b, V s, V h, V t], Z e] (.tup [.agg [.hs 0], .agg [V b, V s, V h, V (rputF l ps d b s h t e).2.1], B (rputF l ps d b s h t e).2.2]) [(0, .arr 9 1 ((rputF l ps d b s h t e).1.map strE))] := by
  refine con_i Tryz.func175 Tryz.ntmps175 (t := [(0, .one (.sl 4 (l.map mpE))), (1, .agg [.sl 1 (ps.map strE)]), (2, I d), (3, .agg [V b, V s, V h, V t]), (4, Z e)]) rfl ?_
  refine vc_sr ?_
  iterate 5 refine vo ?_
  refine vnt ?_
  refine vc_seq' ?_
  refine vc_sr ?_
  refine vo ?_
  refine voc c_impl_RingFree rfl rfl ?_
  iterate 2 refine vo ?_
  refine vsp (fun g1 => ?_) (fun g1 => ?_)
  · iterate 3 refine vof ?_
    refine vo ?_
    refine vnt ?_
    refine vc_then ?_
    refine vc_sr ?_
    refine vo ?_
    refine voc c_impl_copyMemory rfl rfl ?_
    iterate 4 refine vo ?_
    refine vnt ?_
    refine vc_ret ?_
    refine thn_r ?_
    have hh : rputF l ps d b s h t e = _ := rpu_n (.inl g1)
    refine fin_i [(0, some 192)] rfl (fz ?_) (fz ?_)
    · rw [hh]; first | exact ⟨rfl, rfl⟩ | simp [rnext]
    · first | (rw [hh]; done) | (rw [hh, dw_no g3]; done)
  · have hr0 := freeF_ok g1
    have hr := ringOk_facts hr0
    have hsl := rslot_bd hr0 t
    have hsz := sizeB_cases hr.1
    iterate 3 refine von ?_
    refine vo ?_
    refine vnt ?_
    refine vc_if (fun g2 => ?_) (fun g2 => ?_)
    · refine vc_sr ?_
      refine vo ?_
      refine voc c_impl_copyMemory rfl rfl ?_
      iterate 4 refine vo ?_
      refine vnt ?_
      refine vc_ret ?_
      refine thn_r ?_
      have hh : rputF l ps d b s h t e = _ := rpu_n (.inr (.inl (by omega)))
      refine fin_i [(0, some 192)] rfl (fz ?_) (fz ?_)
      · rw [hh]; first | exact ⟨rfl, rfl⟩ | simp [rnext]
      · first | (rw [hh]; done) | (rw [hh, dw_no g3]; done)
    · refine vc_skip ?_
      refine thn ?_
      refine vc_sr ?_
      iterate 6 refine vo ?_
      refine voc c_impl_SlotAddress rfl rfl ?_
      refine vo ?_
      refine voc c_impl_DmaWrite rfl rfl ?_
      iterate 6 refine vo ?_
      refine vnt ?_
      refine vc_seq' ?_
      refine vc_sr ?_
      iterate 2 refine vo ?_
      refine vnt ?_
      refine vc_if (fun g3 => ?_) (fun g3 => ?_)
      · refine vc_sr ?_
        iterate 5 refine vo ?_
        refine vnt ?_
        refine vc_ret ?_
        refine thn_r ?_
        have hh : rputF l ps d b s h t e = _ := rpu_n (.inr (.inr g3))
        refine fin_i [(0, some 280)] rfl (fz ?_) (fz ?_)
        · rw [hh]; first | exact ⟨rfl, rfl⟩ | simp [rnext]
        · first | (rw [hh]; done) | (rw [hh, dw_no g3]; done)
      · refine vc_skip ?_
        refine thn ?_
        refine vc_sr ?_
        iterate 3 refine vo ?_
        try refine vwr ?_
        iterate 3 refine vo ?_
        try refine vwr ?_
        refine vo ?_
        try refine veq (Int.tmod_eq_emod_of_nonneg (by omega)) ?_
        iterate 2 refine vo ?_
        refine vnt ?_
        refine vc_sr ?_
        iterate 5 refine vo ?_
        refine vnt ?_
        refine vc_ret ?_
        have hh : rputF l ps d b s h t e = _ := rpu_y g1 (by omega) g3
        refine fin_i [(0, some 280)] rfl (fz ?_) (fz ?_)
        · rw [hh]; first | exact ⟨rfl, rfl⟩ | simp [rnext]
        · first | (rw [hh]; done) | (rw [hh, dw_no g3]; done)
set_option maxHeartbeats 4000000 in
theorem c_spec_RingFree {b s h t : Int} : Con0 Tryz.prog 65 [.agg [V b, V s, V h, V t]] (I (freeF b s h t)) [] := by
  refine con_i Tryz.func65 Tryz.ntmps65 (t := [(0, .agg [V b, V s, V h, V t])]) rfl ?_
  refine vc_sr ?_
  iterate 2 refine vo ?_
  refine vnt ?_
  refine vc_seq' ?_
  refine vc_sr ?_
  refine vo ?_
  refine voc c_spec_RingOk rfl rfl ?_
  refine vo ?_
  refine vnt ?_
  refine vc_if (fun g1 => ?_) (fun g1 => ?_)
  · refine vc_sr ?_
    refine vo ?_
    refine vnt ?_
    refine vc_ret ?_
    refine thn_r ?_
    refine fin_i [] rfl (fz ?_) trivial
    rw [freeF, g1]
    simp
  · have hr := ringOk_facts g1
    have hs0 := hr.1
    have hub : 0 ≤ usedF s h t ∧ usedF s h t ≤ 16 := by unfold usedF; have hsz := sizeB_cases hs0; omega
    refine vc_skip ?_
    refine thn ?_
    refine vc_sr ?_
    iterate 3 refine vo ?_
    refine voc c_spec_RingUsed rfl rfl ?_
    refine vo ?_
    try refine vwr ?_
    refine vo ?_
    refine vnt ?_
    refine vc_ret ?_
    refine fin_i [] rfl (fz ?_) trivial
    rw [freeF, g1]
    simp [usedF]
set_option maxHeartbeats 4000000 in
theorem c_spec_RingPut {l : List Mp} {ps : Pg} {d b s h t : Int} {e : ByteArray} (hl : l.length ≤ 1099511627776 := by first | with_reducible assumption | omega) (hp : ps.length ≤ 1099511627776 := by first | with_reducible assumption | omega) (hs_e : e.size ≤ 1099511627776 := by first | with_reducible assumption | omega | (simp only [ByteArray.size_append, ByteArray.size_extract, strOfNums_size, List.length_cons, List.length_nil]; omega)) : Con0 Tryz.prog 162 [.one (.sl 4 (l.map mpE)), .agg [.sl 1 (ps.map strE)], I d, .agg [V b, V s, V h, V t], Z e] (.tup [.agg [.hs 0], .agg [V b, V s, V h, V (rputF l ps d b s h t e).2.1], B (rputF l ps d b s h t e).2.2]) [(0, .arr 9 1 ((rputF l ps d b s h t e).1.map strE))] := by
  refine con_i Tryz.func162 Tryz.ntmps162 (t := [(0, .one (.sl 4 (l.map mpE))), (1, .agg [.sl 1 (ps.map strE)]), (2, I d), (3, .agg [V b, V s, V h, V t]), (4, Z e)]) rfl ?_
  refine vc_sr ?_
  iterate 5 refine vo ?_
  refine vnt ?_
  refine vc_seq' ?_
  refine vc_sr ?_
  refine vo ?_
  refine voc c_spec_RingFree rfl rfl ?_
  iterate 2 refine vo ?_
  refine vsp (fun g1 => ?_) (fun g1 => ?_)
  · iterate 3 refine vof ?_
    refine vo ?_
    refine vnt ?_
    refine vc_then ?_
    refine vc_sr ?_
    refine vo ?_
    refine voc c_spec_l16Copy rfl rfl ?_
    iterate 4 refine vo ?_
    refine vnt ?_
    refine vc_ret ?_
    refine thn_r ?_
    have hh : rputF l ps d b s h t e = _ := rpu_n (.inl g1)
    refine fin_i [(0, some 192)] rfl (fz ?_) (fz ?_)
    · rw [hh]; first | exact ⟨rfl, rfl⟩ | simp [rnext]
    · first | (rw [hh]; done) | (rw [hh, dw_no g3]; done)
  · have hr0 := freeF_ok g1
    have hr := ringOk_facts hr0
    have hsl := rslot_bd hr0 t
    have hsz := sizeB_cases hr.1
    iterate 3 refine von ?_
    refine vo ?_
    refine vnt ?_
    refine vc_if (fun g2 => ?_) (fun g2 => ?_)
    · refine vc_sr ?_
      refine vo ?_
      refine voc c_spec_l16Copy rfl rfl ?_
      iterate 4 refine vo ?_
      refine vnt ?_
      refine vc_ret ?_
      refine thn_r ?_
      have hh : rputF l ps d b s h t e = _ := rpu_n (.inr (.inl (by omega)))
      refine fin_i [(0, some 192)] rfl (fz ?_) (fz ?_)
      · rw [hh]; first | exact ⟨rfl, rfl⟩ | simp [rnext]
      · first | (rw [hh]; done) | (rw [hh, dw_no g3]; done)
    · refine vc_skip ?_
      refine thn ?_
      refine vc_sr ?_
      iterate 6 refine vo ?_
      refine voc c_spec_SlotAddress rfl rfl ?_
      refine vo ?_
      refine voc c_spec_DmaWrite rfl rfl ?_
      iterate 6 refine vo ?_
      refine vnt ?_
      refine vc_seq' ?_
      refine vc_sr ?_
      iterate 2 refine vo ?_
      refine vnt ?_
      refine vc_if (fun g3 => ?_) (fun g3 => ?_)
      · refine vc_sr ?_
        refine vo ?_
        refine voc c_spec_l16Copy rfl rfl ?_
        iterate 4 refine vo ?_
        refine vnt ?_
        refine vc_ret ?_
        refine thn_r ?_
        have hh : rputF l ps d b s h t e = _ := rpu_n (.inr (.inr g3))
        refine fin_i [(0, some 328)] rfl (fz ?_) (fz ?_)
        · rw [hh]; first | exact ⟨rfl, rfl⟩ | simp [rnext]
        · first | (rw [hh]; done) | (rw [hh, dw_no g3]; done)
      · refine vc_skip ?_
        refine thn ?_
        refine vc_sr ?_
        iterate 3 refine vo ?_
        try refine vwr ?_
        iterate 3 refine vo ?_
        try refine vwr ?_
        refine vo ?_
        try refine veq (Int.tmod_eq_emod_of_nonneg (by omega)) ?_
        iterate 2 refine vo ?_
        refine vnt ?_
        refine vc_sr ?_
        iterate 5 refine vo ?_
        refine vnt ?_
        refine vc_ret ?_
        have hh : rputF l ps d b s h t e = _ := rpu_y g1 (by omega) g3
        refine fin_i [(0, some 280)] rfl (fz ?_) (fz ?_)
        · rw [hh]; first | exact ⟨rfl, rfl⟩ | simp [rnext]
        · first | (rw [hh]; done) | (rw [hh, dw_no g3]; done)
theorem ceq_flow (s : Sm) (kind si di sp dp : Int) : ceqV [.int .i64 s.kind, .int .i64 s.si, .int .i64 s.di, .int .i64 s.sp, .int .i64 s.dp] [.int .i64 kind, .int .i64 si, .int .i64 di, .int .i64 sp, .int .i64 dp] = smHit s kind si di sp dp := by
  simp [ceqV, smHit]
set_option maxHeartbeats 4000000 in
theorem c_impl_copyStreams {l : List Sm} (hl_l : l.length ≤ 1099511627776 := by first | with_reducible assumption | omega) : Con0 Tryz.prog 130 [.one (.sl 8 (l.map smE))] (.one (.hs 0)) [(0, .arr 196 8 (l.map smE))] := by
  refine con_i Tryz.func130 Tryz.ntmps130 (t := [(0, .one (.sl 8 (l.map smE)))]) rfl ?_
  refine vc_sr ?_
  refine vo ?_
  refine vnt ?_
  refine vc_sr ?_
  iterate 4 refine vo ?_
  refine vnt ?_
  refine vc_ret ?_
  refine fin_i [(0, some 40)] rfl (fz ?_) (fz ?_) <;> first | trivial | rfl | simp
set_option maxHeartbeats 4000000 in
theorem c_impl_StreamIndex {l : List Sm} {kind si di sp dp : Int} (hl_l : l.length ≤ 1099511627776 := by first | with_reducible assumption | omega) : Con0 Tryz.prog 211 [.one (.sl 8 (l.map smE)), .agg [V kind, V si, V di, V sp, V dp]] (I (smIdx l kind si di sp dp)) [] := by
  have hE := eqk_Flow
  refine con_i Tryz.func211 Tryz.ntmps211 (t := [(0, .one (.sl 8 (l.map smE))), (1, .agg [V kind, V si, V di, V sp, V dp])]) rfl ?_
  refine vc_sr ?_
  iterate 2 refine vo ?_
  refine vnt ?_
  refine vc_seq' ?_
  refine vc_sr ?_
  iterate 2 refine vo ?_
  try first | refine vlb ?_ | refine vln ?_
  refine vo ?_
  refine vnt ?_
  refine vc_block ?_
  refine vc_lp (σ := Nat) [3, 7, 8] [24] (fun i => [(9, I (i : Nat))]) (fun i => []) (fun i => i ≤ l.length ∧ smIdx l kind si di sp dp = smIdxF kind si di sp dp i (l.drop i)) (fun i => l.length - i) 0 rfl rfl (sub_i [] (fz ?_) (fz ?_)) ?_ fun i hI => ?_
  · first | trivial | rfl
  · first | trivial | rfl
  · exact ⟨Nat.zero_le _, rfl⟩
  refine vc_nf rfl rfl ?_
  refine vc_sr ?_
  refine vo ?_
  refine vnt ?_
  refine vc_seq' ?_
  refine vc_if (fun g1 => ?_) (fun g1 => ?_)
  · refine vc_skip ?_
    refine thn ?_
    refine vc_seq' ?_
    refine vc_block ?_
    refine vc_sr ?_
    iterate 2 refine vo ?_
    try with_reducible (first | refine vep ?_ | refine vpt ?_)
    iterate 4 refine vo ?_
    refine vnt ?_
    refine vc_sr ?_
    iterate 4 refine vo ?_
    refine vnt ?_
    refine vc_if (fun g2 => ?_) (fun g2 => ?_)
    · refine vc_sr ?_
      iterate 2 refine vo ?_
      refine vnt ?_
      refine vc_ret ?_
      refine inB_r ?_
      refine thn_r ?_
      refine thn_r ?_
      refine inB_r ?_
      refine thn_r ?_
      refine fin_i [] rfl (fz ?_) trivial
      exact sm_hit hI.2 (by omega) ((ceq_flow ..).symm.trans g2)
    · refine vc_skip ?_
      refine inB_n ?_
      refine thn ?_
      refine vc_region ?_
      refine vo ?_
      try refine vwr ?_
      refine vo ?_
      refine vnt ?_
      refine ⟨i + 1, ?_, ?_, sub_i [] (fz ?_) (fz ?_)⟩
      · exact ⟨by omega, sm_go hI.2 (by omega) ((ceq_flow ..).symm.trans g2)⟩
      · omega
      · first | rfl | trivial | exact ⟨rfl, rfl⟩
      · first | rfl | trivial
  · refine vc_exit ?_
    refine thn_x ?_
    refine thn_x ?_
    refine inB_x ?_
    refine thn ?_
    refine vc_sr ?_
    refine vo ?_
    refine vnt ?_
    refine vc_ret ?_
    refine fin_i [] rfl (fz ?_) trivial
    exact sm_end hI.2 (by omega)
set_option maxHeartbeats 4000000 in
theorem c_spec_StreamIndex {l : List Sm} {kind si di sp dp : Int} (hl_l : l.length ≤ 1099511627776 := by first | with_reducible assumption | omega) : Con0 Tryz.prog 202 [.one (.sl 8 (l.map smE)), .agg [V kind, V si, V di, V sp, V dp]] (I (smIdx l kind si di sp dp)) [] := by
  have hE := eqk_Flow
  refine con_i Tryz.func202 Tryz.ntmps202 (t := [(0, .one (.sl 8 (l.map smE))), (1, .agg [V kind, V si, V di, V sp, V dp])]) rfl ?_
  refine vc_sr ?_
  iterate 2 refine vo ?_
  refine vnt ?_
  refine vc_seq' ?_
  refine vc_sr ?_
  refine vo ?_
  refine vnt ?_
  refine vc_block ?_
  refine vc_lp (σ := Nat) [0, 3] [24] (fun i => [(5, I (i : Nat))]) (fun i => []) (fun i => i ≤ l.length ∧ smIdx l kind si di sp dp = smIdxF kind si di sp dp i (l.drop i)) (fun i => l.length - i) 0 rfl rfl (sub_i [] (fz ?_) (fz ?_)) ?_ fun i hI => ?_
  · first | trivial | rfl
  · first | trivial | rfl
  · exact ⟨Nat.zero_le _, rfl⟩
  refine vc_nf rfl rfl ?_
  refine vc_seq' ?_
  refine vc_sr ?_
  iterate 3 refine vo ?_
  try first | refine vlb ?_ | refine vln ?_
  refine vo ?_
  refine vnt ?_
  refine vc_if (fun g1 => ?_) (fun g1 => ?_)
  · refine vc_skip ?_
    refine thn ?_
    refine vc_seq' ?_
    refine vc_block ?_
    refine vc_sr ?_
    iterate 3 refine vo ?_
    try with_reducible (first | refine vep ?_ | refine vpt ?_)
    iterate 4 refine vo ?_
    refine vnt ?_
    refine vc_if (fun g2 => ?_) (fun g2 => ?_)
    · refine vc_sr ?_
      iterate 2 refine vo ?_
      refine vnt ?_
      refine vc_ret ?_
      refine inB_r ?_
      refine thn_r ?_
      refine thn_r ?_
      refine inB_r ?_
      refine thn_r ?_
      refine fin_i [] rfl (fz ?_) trivial
      exact sm_hit hI.2 (by omega) ((ceq_flow ..).symm.trans g2)
    · refine vc_skip ?_
      refine inB_n ?_
      refine thn ?_
      refine vc_region ?_
      iterate 2 refine vo ?_
      try refine vwr ?_
      refine vo ?_
      refine vnt ?_
      refine ⟨i + 1, ?_, ?_, sub_i [] (fz ?_) (fz ?_)⟩
      · exact ⟨by omega, sm_go hI.2 (by omega) ((ceq_flow ..).symm.trans g2)⟩
      · omega
      · first | rfl | trivial | exact ⟨rfl, rfl⟩
      · first | rfl | trivial
  · refine vc_exit ?_
    refine thn_x ?_
    refine thn_x ?_
    refine inB_x ?_
    refine thn ?_
    refine vc_sr ?_
    refine vo ?_
    refine vnt ?_
    refine vc_ret ?_
    refine fin_i [] rfl (fz ?_) trivial
    exact sm_end hI.2 (by omega)
end Go.Proofs.YtbdcaacpemkloaaGreat
end
section
namespace Go.Proofs.YtbdcaacpemkloaaGreat
open Go Go.RowKit Go.Vc
set_option linter.unusedVariables false
set_option linter.unusedSimpArgs false
set_option linter.unnecessarySimpa false
theorem fl_n {l : List Mp} {ps : Pg} {d b s h t pb pz pc : Int} {fr : List Int} (hh : ringOkB b s h t = false ∨ poolB pb pz pc fr = false) : fillRF l ps d b s h t pb pz pc fr = (ps, t, fr, 0) := by
  refine if_neg ?_
  rcases hh with hh | hh <;> rw [hh] <;> simp
theorem fl_y {l : List Mp} {ps p : Pg} {d b s h t u pb pz pc : Int} {fr : List Int} {n : Nat} (h1 : ringOkB b s h t = true) (h2 : poolB pb pz pc fr = true) (h3 : fillG l d b s h pb pz fr ps t 0 = (p, u, n)) : fillRF l ps d b s h t pb pz pc fr = (p, u, fr.drop n, n) := by
  unfold fillRF
  rw [if_pos (by rw [h1, h2]; rfl), h3]
theorem fg_end {l : List Mp} {d b s h pb pz u : Int} {fr : List Int} {p : Pg} {i : Nat} (hi : ¬ i < fr.length) : fillG l d b s h pb pz (fr.drop i) p u i = (p, u, i) := by
  rw [List.drop_eq_nil_of_le (by omega)]; rfl
theorem fg_no {l : List Mp} {d b s h pb pz u : Int} {fr : List Int} {p : Pg} {i : Nat} (hi : i < fr.length) (hr : (rputF l p d b s h u (encDF 3 0 pz (pb + at' fr i * pz) 0 (at' fr i))).2.2 = false) : fillG l d b s h pb pz (fr.drop i) p u i = (p, u, i) := by
  rw [List.drop_eq_getElem_cons hi, ← atp_eq hi]
  unfold fillG
  split
  · rename_i g; rw [g] at hr; cases hr
  · rfl
theorem fg_go {l : List Mp} {d b s h pb pz u : Int} {fr : List Int} {p : Pg} {i : Nat} (hi : i < fr.length) (hr : (rputF l p d b s h u (encDF 3 0 pz (pb + at' fr i * pz) 0 (at' fr i))).2.2 = true) : fillG l d b s h pb pz (fr.drop i) p u i = fillG l d b s h pb pz (fr.drop (i + 1)) (rputF l p d b s h u (encDF 3 0 pz (pb + at' fr i * pz) 0 (at' fr i))).1 (rputF l p d b s h u (encDF 3 0 pz (pb + at' fr i * pz) 0 (at' fr i))).2.1 (i + 1) := by
  rw [List.drop_eq_getElem_cons hi, ← atp_eq hi]
  conv => lhs; unfold fillG
  split
  · rename_i g; rw [g]
  · rename_i g; rw [g] at hr; cases hr
theorem fg_fr {l : List Mp} {d b s h pb pz u : Int} {fr : List Int} {p : Pg} {i : Nat} (hf : freeF b s h u ≤ 0) : fillG l d b s h pb pz (fr.drop i) p u i = (p, u, i) := fillG_full (by have := freeF_nn b s h u; omega) _
theorem bufA_in {pb pz pc : Int} {fr : List Int} {i : Nat} (h1 : poolB pb pz pc fr = true) (hi : i < fr.length) : bufA pb pz pc fr (at' fr i) = pb + at' fr i * pz ∧ 0 ≤ pb ∧ pb ≤ 130944 := by
  obtain ⟨b0, b1, z0, z1, c0, c1, hk⟩ := poolB_facts h1
  have := hk _ (atp_mem hi)
  exact ⟨(bufA_y h1 (inB_iff.2 (by omega))).1, b0, b1⟩
theorem encDF_sz (op fl ln at_ sz ck : Int) : (encDF op fl ln at_ sz ck).size ≤ 1099511627776 := by
  unfold encDF
  split
  · rename_i h; have := encD_size h; omega
  · decide
theorem rpt_y {l : List Mp} {ps : Pg} {d b s h t : Int} {e : ByteArray} (hr : (rputF l ps d b s h t e).2.2 = true) : ringOkB b s h (rputF l ps d b s h t e).2.1 = true ∧ (rputF l ps d b s h t e).1.length = ps.length := by
  generalize hx : rputF l ps d b s h t e = x at hr
  obtain ⟨x1, x2, x3⟩ := x
  simp only at hr
  subst hr
  exact ⟨(rputF_t hx.symm).2, rputF_len hx.symm⟩
set_option maxHeartbeats 4000000 in
theorem c_impl_FillRing {l : List Mp} {ps : Pg} {d b s h t pb pz pc : Int} {fr : List Int} (hl : l.length ≤ 1099511627776 := by first | with_reducible assumption | omega) (hp : ps.length ≤ 1099511627776 := by first | with_reducible assumption | omega) (hl_fr : fr.length ≤ 1099511627776 := by first | with_reducible assumption | omega) : Con0 Tryz.prog 136 [.one (.sl 4 (l.map mpE)), .agg [.sl 1 (ps.map strE)], I d, .agg [V b, V s, V h, V t], .agg [V pb, V pz, V pc, .sl 1 (fr.map intE)]] (.tup [.agg [.hs 0], .agg [V b, V s, V h, V (fillRF l ps d b s h t pb pz pc fr).2.1], .agg [V pb, V pz, V pc, .hs 1], I ((fillRF l ps d b s h t pb pz pc fr).2.2.2 : Nat)]) [(0, .arr 9 1 ((fillRF l ps d b s h t pb pz pc fr).1.map strE)), (1, .arr 3 1 ((fillRF l ps d b s h t pb pz pc fr).2.2.1.map intE))] := by
  refine con_i Tryz.func136 Tryz.ntmps136 (t := [(0, .one (.sl 4 (l.map mpE))), (1, .agg [.sl 1 (ps.map strE)]), (2, I d), (3, .agg [V b, V s, V h, V t]), (4, .agg [V pb, V pz, V pc, .sl 1 (fr.map intE)])]) rfl ?_
  refine vc_sr ?_
  iterate 7 refine vo ?_
  refine vnt ?_
  refine vc_sr ?_
  refine vo ?_
  refine voc c_impl_copyMemory rfl rfl ?_
  refine vo ?_
  refine voc c_impl_copyPool rfl rfl ?_
  iterate 4 refine vo ?_
  refine vnt ?_
  refine vc_seq' ?_
  refine vc_sr ?_
  refine vo ?_
  refine voc c_impl_RingOk rfl rfl ?_
  iterate 2 refine vo ?_
  refine vsp (fun g1 => ?_) (fun g1 => ?_)
  · iterate 3 refine vof ?_
    refine vo ?_
    refine vnt ?_
    refine vc_then ?_
    refine vc_sr ?_
    iterate 7 refine vo ?_
    refine vnt ?_
    refine vc_ret ?_
    refine thn_r ?_
    have hh : fillRF l ps d b s h t pb pz pc fr = _ := fl_n (.inl g1)
    refine fin_i [(0, some 192), (1, some 208)] rfl (fz ?_) (fz ?_)
    · rw [hh]; first | exact ⟨rfl, rfl⟩ | trivial | simp
    · rw [hh]; first | exact ⟨rfl, rfl⟩ | trivial | simp
  · refine von ?_
    refine vocn c_impl_PoolOk rfl rfl ?_
    refine von ?_
    refine vo ?_
    refine vnt ?_
    refine vc_if (fun g2 => ?_) (fun g2 => ?_)
    · refine vc_sr ?_
      iterate 7 refine vo ?_
      refine vnt ?_
      refine vc_ret ?_
      refine thn_r ?_
      have hh : fillRF l ps d b s h t pb pz pc fr = _ := fl_n (.inr g2)
      refine fin_i [(0, some 192), (1, some 208)] rfl (fz ?_) (fz ?_)
      · rw [hh]; first | exact ⟨rfl, rfl⟩ | trivial | simp
      · rw [hh]; first | exact ⟨rfl, rfl⟩ | trivial | simp
    · refine vc_skip ?_
      refine thn ?_
      refine vc_sr ?_
      refine vo ?_
      refine vnt ?_
      refine vc_seq' ?_
      refine vc_sr ?_
      iterate 3 refine vo ?_
      try first | refine vlb ?_ | refine vln ?_
      refine vo ?_
      refine vnt ?_
      refine vc_block ?_
      refine vc_lp3 [0, 2, 8, 9, 10, 11, 12, 14, 15, 39, 40] [72, 80, 88, 96, 120, 208] (fun (i : Nat) (p : Pg) (u : Int) => [(16, I (i : Nat)), (41, I (i : Nat))]) (fun (i : Nat) (p : Pg) (u : Int) => [(7, .arr 9 1 (p.map strE)), (64, .row 29 [V b, V s, V h, V u]), (112, .row 27 [.hs 7])]) (fun (i : Nat) (p : Pg) (u : Int) => fillG l d b s h pb pz fr ps t 0 = fillG l d b s h pb pz (fr.drop i) p u i ∧ i ≤ fr.length ∧ p.length = ps.length ∧ ringOkB b s h u = true) (fun (i : Nat) (p : Pg) (u : Int) => fr.length - i) 0 ps t rfl rfl (sub_i [(112, some 112), (64, some 64), (7, some 192)] (fz ?_) (fz ?_)) ?_ fun i p u hI => ?_
      · first | trivial | rfl
      · first | trivial | rfl | exact ⟨rfl, rfl⟩ | exact ⟨rfl, rfl, rfl⟩ | trace_state
      · exact ⟨rfl, Nat.zero_le _, rfl, g1⟩
      refine vc_nf rfl rfl ?_
      have hpl := hI.2.2.1
      have hdn : (fr.drop (i : Int).toNat).length ≤ 1099511627776 := by rw [List.length_drop]; omega
      refine vc_sr ?_
      refine vo ?_
      refine vnt ?_
      refine vc_seq' ?_
      refine vc_if (fun g3 => ?_) (fun g3 => ?_)
      · obtain ⟨hbe, hb0, hb1⟩ := bufA_in g2 g3
        have hze := encDF_sz 3 0 pz (pb + at' fr i * pz) 0 (at' fr i)
        refine vc_skip ?_
        refine thn ?_
        refine vc_seq' ?_
        refine vc_block ?_
        refine vc_sr ?_
        refine vo ?_
        try with_reducible (first | refine vep ?_ | refine vpt ?_)
        iterate 2 refine vo ?_
        refine vnt ?_
        refine vc_sr ?_
        iterate 4 refine vo ?_
        refine voc c_impl_BufferAddress rfl rfl ?_
        refine veq hbe ?_
        iterate 2 refine vo ?_
        refine voc c_impl_EncodeDesc rfl rfl ?_
        refine vo ?_
        refine vnt ?_
        refine vc_sr ?_
        iterate 5 refine vo ?_
        refine voc c_impl_RingPut rfl rfl ?_
        iterate 9 refine vo ?_
        refine vnt ?_
        refine vc_seq' ?_
        refine vc_sr ?_
        iterate 2 refine vo ?_
        refine vnt ?_
        refine vc_if (fun g4 => ?_) (fun g4 => ?_)
        · refine vc_exit ?_
          refine thn_x ?_
          refine inB_y ?_
          refine thn_x ?_
          refine thn_x ?_
          refine inB_x ?_
          refine thn ?_
          refine vc_sr ?_
          iterate 4 refine vo ?_
          try first | refine vdr ?_ | refine vtk ?_
          refine voc c_impl_copyInts rfl rfl ?_
          iterate 2 refine vo ?_
          refine vnt ?_
          refine vc_sr ?_
          iterate 8 refine vo ?_
          refine vnt ?_
          refine vc_ret ?_
          have hh : fillRF l ps d b s h t pb pz pc fr = _ := fl_y g1 g2 (hI.1.trans (fg_no g3 g4))
          refine fin_i [(0, some 7), (1, some 592)] rfl (fz ?_) (fz ?_)
          · rw [hh]; first | exact ⟨rfl, rfl⟩ | trivial | simp
          · rw [hh]; first | exact ⟨rfl, rfl⟩ | trivial | simp
        · refine vc_skip ?_
          refine thn ?_
          refine vc_sr ?_
          iterate 4 refine vo ?_
          refine vnt ?_
          refine vc_region ?_
          iterate 2 refine vo ?_
          try refine vwr ?_
          refine vo ?_
          refine vnil ?_
          refine inB_n ?_
          refine thn ?_
          refine vc_region ?_
          refine vo ?_
          try refine vwr ?_
          refine vo ?_
          refine vnt ?_
          have hq := rpt_y (l := l) (ps := p) (d := d) (b := b) (s := s) (h := h) (t := u) (e := encDF 3 0 pz (pb + at' fr i * pz) 0 (at' fr i)) g4
          refine ⟨i + 1, (rputF l p d b s h u (encDF 3 0 pz (pb + at' fr i * pz) 0 (at' fr i))).1, (rputF l p d b s h u (encDF 3 0 pz (pb + at' fr i * pz) 0 (at' fr i))).2.1, ?_, ?_, sub_i [(112, some 112), (64, some 64), (7, some 472)] (fz ?_) (fz ?_)⟩
          · exact ⟨hI.1.trans (fg_go g3 g4), by omega, by rw [hq.2]; exact hI.2.2.1, hq.1⟩
          · omega
          · first | trivial | rfl | exact ⟨rfl, rfl⟩
          · first | trivial | rfl | exact ⟨rfl, rfl⟩ | exact ⟨rfl, rfl, rfl⟩ | exact ⟨rfl, rfl, rfl, rfl⟩ | trace_state
      · refine vc_exit ?_
        refine thn_x ?_
        refine thn_x ?_
        refine inB_x ?_
        refine thn ?_
        refine vc_sr ?_
        iterate 4 refine vo ?_
        try first | refine vdr ?_ | refine vtk ?_
        refine voc c_impl_copyInts rfl rfl ?_
        iterate 2 refine vo ?_
        refine vnt ?_
        refine vc_sr ?_
        iterate 8 refine vo ?_
        refine vnt ?_
        refine vc_ret ?_
        have hh : fillRF l ps d b s h t pb pz pc fr = _ := fl_y g1 g2 (hI.1.trans (fg_end g3))
        refine fin_i [(0, some 7), (1, some 592)] rfl (fz ?_) (fz ?_)
        · rw [hh]; first | exact ⟨rfl, rfl⟩ | trivial | simp
        · rw [hh]; first | exact ⟨rfl, rfl⟩ | trivial | simp
set_option maxHeartbeats 4000000 in
theorem c_spec_FillRing {l : List Mp} {ps : Pg} {d b s h t pb pz pc : Int} {fr : List Int} (hl : l.length ≤ 1099511627776 := by first | with_reducible assumption | omega) (hp : ps.length ≤ 1099511627776 := by first | with_reducible assumption | omega) (hl_fr : fr.length ≤ 1099511627776 := by first | with_reducible assumption | omega) : Con0 Tryz.prog 124 [.one (.sl 4 (l.map mpE)), .agg [.sl 1 (ps.map strE)], I d, .agg [V b, V s, V h, V t], .agg [V pb, V pz, V pc, .sl 1 (fr.map intE)]] (.tup [.agg [.hs 0], .agg [V b, V s, V h, V (fillRF l ps d b s h t pb pz pc fr).2.1], .agg [V pb, V pz, V pc, .hs 1], I ((fillRF l ps d b s h t pb pz pc fr).2.2.2 : Nat)]) [(0, .arr 9 1 ((fillRF l ps d b s h t pb pz pc fr).1.map strE)), (1, .arr 3 1 ((fillRF l ps d b s h t pb pz pc fr).2.2.1.map intE))] := by
  refine con_i Tryz.func124 Tryz.ntmps124 (t := [(0, .one (.sl 4 (l.map mpE))), (1, .agg [.sl 1 (ps.map strE)]), (2, I d), (3, .agg [V b, V s, V h, V t]), (4, .agg [V pb, V pz, V pc, .sl 1 (fr.map intE)])]) rfl ?_
  refine vc_sr ?_
  iterate 7 refine vo ?_
  refine vnt ?_
  refine vc_sr ?_
  refine vo ?_
  refine voc c_spec_l16Copy rfl rfl ?_
  iterate 2 refine vo ?_
  refine vnt ?_
  refine vc_sr ?_
  refine vo ?_
  refine voc c_spec_l21Copy rfl rfl ?_
  iterate 2 refine vo ?_
  refine vnt ?_
  refine vc_sr ?_
  refine vo ?_
  refine vnt ?_
  refine vc_seq' ?_
  refine vc_sr ?_
  refine vo ?_
  refine voc c_spec_RingOk rfl rfl ?_
  iterate 2 refine vo ?_
  refine vsp (fun g1 => ?_) (fun g1 => ?_)
  · iterate 3 refine vof ?_
    refine vo ?_
    refine vnt ?_
    refine vc_then ?_
    refine vc_sr ?_
    iterate 7 refine vo ?_
    refine vnt ?_
    refine vc_ret ?_
    refine thn_r ?_
    have hh : fillRF l ps d b s h t pb pz pc fr = _ := fl_n (.inl g1)
    refine fin_i [(0, some 176), (1, some 192)] rfl (fz ?_) (fz ?_)
    · rw [hh]; first | exact ⟨rfl, rfl⟩ | trivial | simp
    · rw [hh]; first | exact ⟨rfl, rfl⟩ | trivial | simp
  · refine von ?_
    refine vocn c_spec_PoolOk rfl rfl ?_
    refine von ?_
    refine vo ?_
    refine vnt ?_
    refine vc_if (fun g2 => ?_) (fun g2 => ?_)
    · refine vc_sr ?_
      iterate 7 refine vo ?_
      refine vnt ?_
      refine vc_ret ?_
      refine thn_r ?_
      have hh : fillRF l ps d b s h t pb pz pc fr = _ := fl_n (.inr g2)
      refine fin_i [(0, some 176), (1, some 192)] rfl (fz ?_) (fz ?_)
      · rw [hh]; first | exact ⟨rfl, rfl⟩ | trivial | simp
      · rw [hh]; first | exact ⟨rfl, rfl⟩ | trivial | simp
    · refine vc_skip ?_
      refine thn ?_
      refine vc_seq' ?_
      refine vc_block ?_
      refine vc_lp3 [0, 2, 8, 9, 10, 11, 12, 14, 15] [72, 80, 88, 96] (fun (i : Nat) (p : Pg) (u : Int) => [(16, I (i : Nat))]) (fun (i : Nat) (p : Pg) (u : Int) => [(7, .arr 9 1 (p.map strE)), (9, .arr 3 1 ((fr.drop i).map intE)), (64, .row 29 [V b, V s, V h, V u]), (112, .row 27 [.hs 7]), (120, .row 32 [V pb, V pz, V pc, .hs 9])]) (fun (i : Nat) (p : Pg) (u : Int) => fillG l d b s h pb pz fr ps t 0 = fillG l d b s h pb pz (fr.drop i) p u i ∧ i ≤ fr.length ∧ p.length = ps.length ∧ ringOkB b s h u = true) (fun (i : Nat) (p : Pg) (u : Int) => fr.length - i) 0 ps t rfl rfl (sub_i [(112, some 112), (64, some 64), (7, some 176), (120, some 120), (9, some 192)] (fz ?_) (fz ?_)) ?_ fun i p u hI => ?_
      · first | trivial | rfl
      · first | trivial | rfl | exact ⟨rfl, rfl⟩ | exact ⟨rfl, rfl, rfl⟩ | trace_state
      · exact ⟨rfl, Nat.zero_le _, rfl, g1⟩
      refine vc_nf rfl rfl ?_
      have hpl := hI.2.2.1
      have hdl : (fr.drop i).length = fr.length - i := List.length_drop
      have hdd : (List.drop 1 (List.map intE (fr.drop i))).length ≤ fr.length := by rw [List.length_drop, List.length_map]; omega
      refine vc_seq' ?_
      refine vc_sr ?_
      refine vo ?_
      refine voc c_spec_RingFree rfl rfl ?_
      iterate 2 refine vo ?_
      refine vsp (fun g3 => ?_) (fun g3 => ?_)
      · iterate 3 refine von ?_
        try first | refine vlb ?_ | refine vln ?_
        refine von ?_
        refine vo ?_
        refine vnt ?_
        refine vc_if (fun g4 => ?_) (fun g4 => ?_)
        · have hlt : i < fr.length := by omega
          obtain ⟨hbe, hb0, hb1⟩ := bufA_in g2 hlt
          have hze := encDF_sz 3 0 pz (pb + at' fr i * pz) 0 (at' fr i)
          have hat : at' (fr.drop i) 0 = at' fr i := by rw [atp_eq (by omega), atp_eq hlt, List.getElem_drop]; rfl
          refine vc_skip ?_
          refine thn ?_
          refine vc_block ?_
          refine vc_sr ?_
          iterate 3 refine vo ?_
          first | refine vepl (j := 0) rfl ?_ | refine vptl (j := 0) rfl ?_
          refine vo ?_
          refine veq hat ?_
          refine vo ?_
          refine vnt ?_
          refine vc_sr ?_
          iterate 8 refine vo ?_
          refine voc c_spec_BufferAddress rfl rfl ?_
          refine veq hbe ?_
          iterate 2 refine vo ?_
          refine voc c_spec_EncodeDesc rfl rfl ?_
          refine voc c_spec_RingPut rfl rfl ?_
          iterate 9 refine vo ?_
          refine vnt ?_
          refine vc_seq' ?_
          refine vc_sr ?_
          iterate 2 refine vo ?_
          refine vnt ?_
          refine vc_if (fun g5 => ?_) (fun g5 => ?_)
          · refine vc_exit ?_
            refine thn_x ?_
            refine inB_y ?_
            refine thn_x ?_
            refine inB_x ?_
            refine thn ?_
            refine vc_sr ?_
            iterate 8 refine vo ?_
            refine vnt ?_
            refine vc_ret ?_
            have hh : fillRF l ps d b s h t pb pz pc fr = _ := fl_y g1 g2 (hI.1.trans (fg_no hlt g5))
            refine fin_i [(0, some 7), (1, some 9)] rfl (fz ?_) (fz ?_)
            · rw [hh]; first | exact ⟨rfl, rfl⟩ | trivial | simp
            · rw [hh]; first | exact ⟨rfl, rfl⟩ | trivial | simp
          · refine vc_skip ?_
            refine thn ?_
            refine vc_sr ?_
            iterate 2 refine vo ?_
            refine vnt ?_
            refine vc_sr ?_
            iterate 2 refine vo ?_
            refine vnt ?_
            refine vc_sr ?_
            iterate 4 refine vo ?_
            try first | refine vdrl (j := 1) rfl ?_ | refine vhc (j := 1) rfl ?_
            refine vo ?_
            rw [List.nil_append, ← List.map_drop, List.drop_drop]
            iterate 2 refine vo ?_
            refine vnt ?_
            refine vc_region ?_
            iterate 2 refine vo ?_
            try refine vwr ?_
            refine vo ?_
            refine vnil ?_
            refine inB_n ?_
            refine thn ?_
            have hq := rpt_y (l := l) (ps := p) (d := d) (b := b) (s := s) (h := h) (t := u) (e := encDF 3 0 pz (pb + at' fr i * pz) 0 (at' fr i)) g5
            refine ⟨i + 1, (rputF l p d b s h u (encDF 3 0 pz (pb + at' fr i * pz) 0 (at' fr i))).1, (rputF l p d b s h u (encDF 3 0 pz (pb + at' fr i * pz) 0 (at' fr i))).2.1, ?_, ?_, sub_i [(112, some 112), (64, some 64), (7, some 496), (120, some 120), (9, some 592)] (fz ?_) (fz ?_)⟩
            · exact ⟨hI.1.trans (fg_go hlt g5), by omega, by rw [hq.2]; exact hI.2.2.1, hq.1⟩
            · omega
            · first | trivial | rfl | exact ⟨rfl, rfl⟩
            · first | trivial | rfl | exact ⟨rfl, rfl⟩ | exact ⟨rfl, rfl, rfl⟩ | exact ⟨rfl, rfl, rfl, rfl⟩ | trace_state
        · refine vc_exit ?_
          refine thn_x ?_
          refine thn_x ?_
          refine inB_x ?_
          refine thn ?_
          refine vc_sr ?_
          iterate 8 refine vo ?_
          refine vnt ?_
          refine vc_ret ?_
          have hh : fillRF l ps d b s h t pb pz pc fr = _ := fl_y g1 g2 (hI.1.trans (fg_end (by omega)))
          refine fin_i [(0, some 7), (1, some 9)] rfl (fz ?_) (fz ?_)
          · rw [hh]; first | exact ⟨rfl, rfl⟩ | trivial | simp
          · rw [hh]; first | exact ⟨rfl, rfl⟩ | trivial | simp
      · iterate 4 refine vof ?_
        refine vo ?_
        refine vnt ?_
        refine vc_else ?_
        refine vc_exit ?_
        refine thn_x ?_
        refine thn_x ?_
        refine inB_x ?_
        refine thn ?_
        refine vc_sr ?_
        iterate 8 refine vo ?_
        refine vnt ?_
        refine vc_ret ?_
        have hh : fillRF l ps d b s h t pb pz pc fr = _ := fl_y g1 g2 (hI.1.trans (fg_fr (by omega)))
        refine fin_i [(0, some 7), (1, some 9)] rfl (fz ?_) (fz ?_)
        · rw [hh]; first | exact ⟨rfl, rfl⟩ | trivial | simp
        · rw [hh]; first | exact ⟨rfl, rfl⟩ | trivial | simp
end Go.Proofs.YtbdcaacpemkloaaGreat
end
section
namespace Go.Proofs.YtbdcaacpemkloaaGreat
open Go Go.RowKit Go.Vc
set_option linter.unusedVariables false
set_option linter.unusedSimpArgs false
set_option linter.unnecessarySimpa false
theorem app_sm (l : List Sm) (a b c d e f : Int) (s : ByteArray) (z : Bool) : l.map smE ++ [[.int .i64 a, .int .i64 b, .int .i64 c, .int .i64 d, .int .i64 e, .int .i64 f, .string s, .bool z]] = (l ++ [(⟨a, b, c, d, e, f, s, z⟩ : Sm)]).map smE := by simp [smE]
theorem set_sm (l : List Sm) (i : Nat) (a b c d e f : Int) (s : ByteArray) (z : Bool) : (l.map smE).set i [.int .i64 a, .int .i64 b, .int .i64 c, .int .i64 d, .int .i64 e, .int .i64 f, .string s, .bool z] = (l.set i ⟨a, b, c, d, e, f, s, z⟩).map smE := by rw [List.map_set]; rfl
theorem at_set2 {l l2 : List Sm} {i : Nat} {y : Sm} (h : l.set i y = l2) (hi : i < l.length) : at' l2 i = y ∧ l2.length = l.length := by
  subst h
  have hl : (l.set i y).length = l.length := List.length_set
  exact ⟨by rw [atp_eq (by omega)]; exact List.getElem_set_self .., hl⟩
theorem at_app2 {l l2 : List Sm} {y : Sm} (h : l ++ [y] = l2) : at' l2 l.length = y ∧ l2.length = l.length + 1 := by
  subst h
  have hl : (l ++ [y]).length = l.length + 1 := by rw [List.length_append]; rfl
  exact ⟨by rw [atp_eq (by omega), List.getElem_append_right (Nat.le_refl _)]; simp, hl⟩
theorem lit_app (x : ByteArray) : (⟨#[]⟩ : ByteArray) ++ x = x := ByteArray.empty_append
theorem sp_mod (a s o : Int) : (a % 4294967296 + s - o) % 4294967296 = (a + s - o) % 4294967296 := by omega
theorem set_app {l : List Sm} {x y : Sm} : (l ++ [x]).set l.length y = l ++ [y] := by simp
theorem wr_mod (x : Int) : wr x % 4294967296 = x % 4294967296 := by rw [wr_eq]; unfold wrap64; omega
theorem wr_mod2 (x o : Int) : wr (wr x - o) % 4294967296 = (x - o) % 4294967296 := by rw [wr_eq, wr_eq]; unfold wrap64; omega
theorem and32 (x : Int) : andI x 4294967295 = x % 4294967296 := by
  rw [andI_eq]; exact and_mask_i64 x 32 (by decide)
theorem dlO_bd (s : Sm) (p : Pk) : 0 ≤ dlO s p ∧ dlO s p < 4294967296 := by unfold dlO; omega
theorem dl_n {l : List Sm} {p : Pk} (h : p.sup = false) : dlF l p = l := if_neg (by rw [h]; decide)
theorem dl_un {l : List Sm} {p : Pk} (h : p.sup = true) (h1 : p.kind = 17) (h2 : p.ix l < 0) : dlF l p = l ++ [⟨p.kind, p.si, p.di, p.sp, p.dp, 0, p.dg, false⟩] := by
  unfold dlF; rw [if_pos h, if_pos h1, if_pos h2]
theorem dl_uo {l : List Sm} {p : Pk} {i : Nat} (h : p.sup = true) (h1 : p.kind = 17) (h2 : p.ix l = i) : dlF l p = l.set i { at' l i with data := (at' l i).data ++ p.dg } := by
  unfold dlF; rw [if_pos h, if_pos h1, if_neg (by omega), h2]; rfl
theorem dl_sn {l : List Sm} {p : Pk} (h : p.sup = true) (h1 : ¬ p.kind = 17) (h2 : ¬ andI p.fl 2 = 0) (h3 : p.ix l < 0) : dlF l p = l ++ [⟨p.kind, p.si, p.di, p.sp, p.dp, (p.seq + 1) % 4294967296, ⟨#[]⟩, false⟩] := by
  unfold dlF; rw [if_pos h, if_neg h1, if_pos h2, if_pos h3]
theorem dl_so {l : List Sm} {p : Pk} (h : p.sup = true) (h1 : ¬ p.kind = 17) (h2 : ¬ andI p.fl 2 = 0) (h3 : ¬ p.ix l < 0) : dlF l p = l := by
  unfold dlF; rw [if_pos h, if_neg h1, if_pos h2, if_neg h3]
theorem dl_x {l : List Sm} {p : Pk} (h : p.sup = true) (h1 : ¬ p.kind = 17) (h2 : andI p.fl 2 = 0) (h3 : p.ix l < 0 ∨ (at' l (p.ix l).toNat).done = true ∨ ¬ andI p.fl 4 = 0) : dlF l p = l := by
  unfold dlF; rw [if_pos h, if_neg h1, if_neg (fun hh => hh h2), if_pos h3]
theorem dl_y {l : List Sm} {p : Pk} {i : Nat} (h : p.sup = true) (h1 : ¬ p.kind = 17) (h2 : andI p.fl 2 = 0) (h3 : p.ix l = i) (h4 : (at' l i).done = false) (h5 : andI p.fl 4 = 0) : dlF l p = if dlO (at' l i) p ≤ p.body.size then l.set i (dlS (at' l i) p) else l := by
  unfold dlF
  rw [if_pos h, if_neg h1, if_neg (fun hh => hh h2), if_neg, h3]
  · rfl
  · rw [h3]
    rintro (hh | hh | hh)
    · omega
    · have : (at' l i).done = true := hh
      rw [h4] at this; cases this
    · exact hh h5
theorem sup_seq {p : Pk} (h : p.sup = true) : 0 ≤ p.seq ∧ p.seq ≤ 4294967295 := by
  unfold Pk.sup at h
  simp only [superOkB, segOkB, Bool.and_eq_true, Bool.or_eq_true, inB_iff, Bool.not_eq_true', decide_eq_false_iff_not, beq_iff_eq] at h
  obtain ⟨_, _, _, _, _, h1, _, _, ⟨h2, h3⟩, _⟩ := h
  rcases h3 with ⟨_, a, _, b, _⟩ | ⟨_, _, a, _, b, _⟩
  · exact a
  · omega
set_option maxHeartbeats 4000000 in
theorem c_impl_Deliver {l : List Sm} {p : Pk} (hl_l : l.length ≤ 1000000000 := by first | with_reducible assumption | omega) (hz : ∀ s ∈ l, s.data.size ≤ 1000000000000 := by with_reducible assumption) : Con0 Tryz.prog 135 [.one (.sl 8 (l.map smE)), .agg [V (p).dm, V (p).sm, V (p).vl, V (p).tos, V (p).id, V (p).ttl, V (p).si, V (p).di, V (p).kind, V (p).sp, V (p).dp, V (p).seq, V (p).ack, V (p).fl, V (p).win, VS (p).body]] (.one (.hs 0)) [(0, .arr 196 8 ((dlF l p).map smE))] := by
  refine con_i Tryz.func135 Tryz.ntmps135 (t := [(0, .one (.sl 8 (l.map smE))), (1, .agg [V (p).dm, V (p).sm, V (p).vl, V (p).tos, V (p).id, V (p).ttl, V (p).si, V (p).di, V (p).kind, V (p).sp, V (p).dp, V (p).seq, V (p).ack, V (p).fl, V (p).win, VS (p).body])]) rfl ?_
  refine vc_sr ?_
  iterate 2 refine vo ?_
  refine vnt ?_
  refine vc_sr ?_
  refine vo ?_
  refine voc c_impl_copyStreams rfl rfl ?_
  refine vo ?_
  refine vnt ?_
  refine vc_seq' ?_
  refine vc_sr ?_
  refine vo ?_
  refine voc c_impl_SuperOk rfl rfl ?_
  refine vo ?_
  refine vnt ?_
  refine vc_if (fun g1 => ?_) (fun g1 => ?_)
  · refine vc_sr ?_
    iterate 2 refine vo ?_
    refine vnt ?_
    refine vc_ret ?_
    refine thn_r ?_
    have hd : dlF l p = _ := dl_n g1
    refine fin_i [(0, some 96)] rfl (fz ?_) (fz ?_)
    · trivial
    · rw [hd]
  · have hs : p.sup = true := g1
    have hbl := pk_len hs
    have hsq := sup_seq hs
    have hib := smIdx_bd l p.kind p.si p.di p.sp p.dp
    have hww := word16_le (p.body.size : Int)
    refine vc_skip ?_
    refine thn ?_
    refine vc_sr ?_
    refine vo ?_
    refine voc c_impl_FlowOf rfl rfl ?_
    iterate 2 refine vo ?_
    refine vnt ?_
    refine vc_sr ?_
    iterate 4 refine vo ?_
    refine vnt ?_
    refine vc_sr ?_
    iterate 2 refine vo ?_
    refine voc c_impl_StreamIndex rfl rfl ?_
    refine vo ?_
    refine vnt ?_
    refine vc_seq' ?_
    refine vc_sr ?_
    iterate 3 refine vo ?_
    refine vnt ?_
    refine vc_if (fun g2 => ?_) (fun g2 => ?_)
    · refine vc_seq' ?_
      refine vc_sr ?_
      iterate 2 refine vo ?_
      refine vnt ?_
      refine vc_if (fun g3 => ?_) (fun g3 => ?_)
      · refine vc_sr ?_
        iterate 2 refine vo ?_
        try first | refine vlb ?_ | refine vln ?_
        refine vo ?_
        refine vnt ?_
        refine vc_region ?_
        iterate 5 refine vo ?_
        rw [app_sm]
        generalize h2 : l ++ [(_ : Sm)] = l2
        obtain ⟨al2, nl2⟩ := at_app2 h2
        refine vo ?_
        refine vnt ?_
        refine vc_sr ?_
        iterate 3 refine vo ?_
        try with_reducible (first | refine vep ?_ | refine vpt ?_)
        iterate 2 refine vo ?_
        have hzz : (⟨#[]⟩ : ByteArray).size = 0 := rfl
        rw [al2]
        iterate 3 refine vo ?_
        refine voc c_impl_Word16 rfl rfl ?_
        refine vzs (word16_le _) fun z1 => ?_
        iterate 5 refine vo ?_
        try with_reducible (first | refine vep ?_ | refine vpt ?_)
        iterate 2 refine vo ?_
        rw [set_sm]
        generalize h3 : List.set l2 l.length _ = l3
        obtain ⟨al3, nl3⟩ := at_set2 h3 (by omega)
        try rw [al3]
        refine vnt ?_
        refine vc_sr ?_
        iterate 2 refine vo ?_
        refine vnt ?_
        refine vc_ret ?_
        refine thn_r ?_
        rw [al2] at h3
        have hd : dlF l p = _ := dl_un hs g2 g3
        refine fin_i [(0, some 280)] rfl (fz ?_) (fz ?_)
        · trivial
        · rw [hd, ← h3, ← h2, set_app]; simp [Pk.dg, ByteArray.append_assoc, lit_app]
      · obtain ⟨i, hi, hie⟩ := smIdx_ge (l := l) (kind := p.kind) (si := p.si) (di := p.di) (sp := p.sp) (dp := p.dp) (by omega)
        have hix : p.ix l = i := hie
        rw [hie]
        have hzi := hz _ (atp_mem hi)
        refine vc_skip ?_
        refine thn ?_
        refine vc_sr ?_
        iterate 3 refine vo ?_
        try with_reducible (first | refine vep ?_ | refine vpt ?_)
        iterate 5 refine vo ?_
        refine voc c_impl_Word16 rfl rfl ?_
        refine vzs (word16_le _) fun z2 => ?_
        iterate 5 refine vo ?_
        try with_reducible (first | refine vep ?_ | refine vpt ?_)
        iterate 2 refine vo ?_
        rw [set_sm]
        generalize h2 : List.set l i _ = l2
        obtain ⟨al2, nl2⟩ := at_set2 h2 (by omega)
        try rw [al2]
        refine vnt ?_
        refine vc_sr ?_
        iterate 2 refine vo ?_
        refine vnt ?_
        refine vc_ret ?_
        refine thn_r ?_
        have hd : dlF l p = _ := dl_uo hs g2 hix
        refine fin_i [(0, some 96)] rfl (fz ?_) (fz ?_)
        · trivial
        · rw [hd, ← h2]; simp [Pk.dg, ByteArray.append_assoc]
    · refine vc_skip ?_
      refine thn ?_
      refine vc_seq' ?_
      refine vc_sr ?_
      iterate 4 refine vo ?_
      refine vnt ?_
      refine vc_if (fun g4 => ?_) (fun g4 => ?_)
      · refine vc_seq' ?_
        refine vc_sr ?_
        iterate 2 refine vo ?_
        refine vnt ?_
        refine vc_if (fun g5 => ?_) (fun g5 => ?_)
        · refine vc_region ?_
          iterate 5 refine vo ?_
          try refine vwr ?_
          refine vo ?_
          try refine veq (Int.tmod_eq_emod_of_nonneg (by omega)) ?_
          iterate 4 refine vo ?_
          refine vnt ?_
          refine vc_sr ?_
          iterate 2 refine vo ?_
          refine vnt ?_
          refine vc_ret ?_
          refine thn_r ?_
          have hd : dlF l p = _ := dl_sn hs g2 g4 g5
          refine fin_i [(0, some 528)] rfl (fz ?_) (fz ?_)
          · trivial
          · rw [hd]; simp [smE]
        · refine vc_skip ?_
          refine thn ?_
          refine vc_sr ?_
          iterate 2 refine vo ?_
          refine vnt ?_
          refine vc_ret ?_
          refine thn_r ?_
          have hd : dlF l p = _ := dl_so hs g2 g4 (show ¬ p.ix l < 0 by unfold Pk.ix; omega)
          refine fin_i [(0, some 96)] rfl (fz ?_) (fz ?_)
          · trivial
          · rw [hd]
      · refine vc_skip ?_
        refine thn ?_
        refine vc_seq' ?_
        refine vc_sr ?_
        iterate 3 refine vo ?_
        refine vsp (fun g6 => ?_) (fun g6 => ?_)
        · iterate 5 refine vof ?_
          iterate 2 refine vo ?_
          iterate 4 refine vof ?_
          refine vo ?_
          refine vnt ?_
          refine vc_then ?_
          refine vc_sr ?_
          iterate 2 refine vo ?_
          refine vnt ?_
          refine vc_ret ?_
          refine thn_r ?_
          have hd : dlF l p = _ := dl_x hs g2 g4 (.inl g6)
          refine fin_i [(0, some 96)] rfl (fz ?_) (fz ?_)
          · trivial
          · rw [hd]
        · obtain ⟨i, hi, hie⟩ := smIdx_ge (l := l) (kind := p.kind) (si := p.si) (di := p.di) (sp := p.sp) (dp := p.dp) (by omega)
          have hix : p.ix l = i := hie
          rw [hie]
          have hzi := hz _ (atp_mem hi)
          iterate 3 refine von ?_
          try with_reducible (first | refine vep ?_ | refine vpt ?_)
          iterate 2 refine von ?_
          iterate 2 refine vo ?_
          refine vsp (fun g7 => ?_) (fun g7 => ?_)
          · iterate 4 refine vof ?_
            refine vo ?_
            refine vnt ?_
            refine vc_then ?_
            refine vc_sr ?_
            iterate 2 refine vo ?_
            refine vnt ?_
            refine vc_ret ?_
            refine thn_r ?_
            have hd : dlF l p = _ := dl_x hs g2 g4 (.inr (.inl (by rw [hix]; exact g7)))
            refine fin_i [(0, some 96)] rfl (fz ?_) (fz ?_)
            · trivial
            · rw [hd]
          · iterate 4 refine von ?_
            refine vo ?_
            refine vnt ?_
            refine vc_if (fun g8 => ?_) (fun g8 => ?_)
            · refine vc_sr ?_
              iterate 2 refine vo ?_
              refine vnt ?_
              refine vc_ret ?_
              refine thn_r ?_
              have hd : dlF l p = _ := dl_x hs g2 g4 (.inr (.inr g8))
              refine fin_i [(0, some 96)] rfl (fz ?_) (fz ?_)
              · trivial
              · rw [hd]
            · have hob := dlO_bd (at' l i) p
              refine vc_skip ?_
              refine thn ?_
              refine vc_sr ?_
              iterate 3 refine vo ?_
              try with_reducible (first | refine vep ?_ | refine vpt ?_)
              refine vo ?_
              refine vnt ?_
              refine vc_sr ?_
              iterate 7 refine vo ?_
              try refine vwr ?_
              refine voc c_impl_modulo rfl rfl ?_
              refine veq (show _ = dlO (at' l i) p from wr_mod _) ?_
              refine vo ?_
              refine vnt ?_
              refine vc_seq' ?_
              refine vc_sr ?_
              iterate 5 refine vo ?_
              refine vnt ?_
              refine vc_if (fun g9 => ?_) (fun g9 => ?_)
              · refine vc_sr ?_
                iterate 8 refine vo ?_
                try first | refine vdr ?_ | refine vtk ?_
                iterate 4 refine vo ?_
                rw [set_sm]
                generalize h2 : List.set l i _ = l2
                obtain ⟨al2, nl2⟩ := at_set2 h2 (by omega)
                try rw [al2]
                refine vnt ?_
                refine vc_sr ?_
                iterate 5 refine vo ?_
                rw [al2]
                iterate 4 refine vo ?_
                try refine vwr ?_
                iterate 2 refine vo ?_
                try refine vwr ?_
                refine voc c_impl_modulo rfl rfl ?_
                refine veq (wr_mod2 _ _) ?_
                iterate 3 refine vo ?_
                rw [set_sm]
                generalize h3 : List.set l2 i _ = l3
                obtain ⟨al3, nl3⟩ := at_set2 h3 (by omega)
                try rw [al3]
                refine vnt ?_
                refine vc_region ?_
                iterate 8 refine vo ?_
                rw [set_sm]
                generalize h4 : List.set l3 i _ = l4
                obtain ⟨al4, nl4⟩ := at_set2 h4 (by omega)
                try rw [al4]
                refine vnt ?_
                refine vc_sr ?_
                iterate 2 refine vo ?_
                refine vnt ?_
                refine vc_ret ?_
                rw [al2] at al3 h3
                rw [al3] at h4
                have hd : dlF l p = _ := (dl_y hs g2 g4 hix g7 g8).trans (if_pos g9)
                refine fin_i [(0, some 96)] rfl (fz ?_) (fz ?_)
                · trivial
                · rw [hd, ← h4, ← h3, ← h2, List.set_set, List.set_set]; rfl
              · refine vc_skip ?_
                refine thn ?_
                refine vc_sr ?_
                iterate 2 refine vo ?_
                refine vnt ?_
                refine vc_ret ?_
                have hd : dlF l p = _ := (dl_y hs g2 g4 hix g7 g8).trans (if_neg (by omega))
                refine fin_i [(0, some 96)] rfl (fz ?_) (fz ?_)
                · trivial
                · rw [hd]
set_option maxHeartbeats 4000000 in
theorem c_spec_Deliver {l : List Sm} {p : Pk} (hl_l : l.length ≤ 1000000000 := by first | with_reducible assumption | omega) (hz : ∀ s ∈ l, s.data.size ≤ 1000000000000 := by with_reducible assumption) : Con0 Tryz.prog 122 [.one (.sl 8 (l.map smE)), .agg [V (p).dm, V (p).sm, V (p).vl, V (p).tos, V (p).id, V (p).ttl, V (p).si, V (p).di, V (p).kind, V (p).sp, V (p).dp, V (p).seq, V (p).ack, V (p).fl, V (p).win, VS (p).body]] (.one (.hs 0)) [(0, .arr 196 8 ((dlF l p).map smE))] := by
  refine con_i Tryz.func122 Tryz.ntmps122 (t := [(0, .one (.sl 8 (l.map smE))), (1, .agg [V (p).dm, V (p).sm, V (p).vl, V (p).tos, V (p).id, V (p).ttl, V (p).si, V (p).di, V (p).kind, V (p).sp, V (p).dp, V (p).seq, V (p).ack, V (p).fl, V (p).win, VS (p).body])]) rfl ?_
  refine vc_sr ?_
  iterate 2 refine vo ?_
  refine vnt ?_
  refine vc_sr ?_
  iterate 3 refine vo ?_
  rw [List.nil_append]
  refine vo ?_
  refine vnt ?_
  refine vc_seq' ?_
  refine vc_sr ?_
  refine vo ?_
  refine voc c_spec_SuperOk rfl rfl ?_
  refine vo ?_
  refine vnt ?_
  refine vc_if (fun g1 => ?_) (fun g1 => ?_)
  · refine vc_sr ?_
    iterate 2 refine vo ?_
    refine vnt ?_
    refine vc_ret ?_
    refine thn_r ?_
    have hd : dlF l p = _ := dl_n g1
    refine fin_i [(0, some 96)] rfl (fz ?_) (fz ?_)
    · trivial
    · rw [hd]
  · have hs : p.sup = true := g1
    have hbl := pk_len hs
    have hsq := sup_seq hs
    have hib := smIdx_bd l p.kind p.si p.di p.sp p.dp
    have hww := word16_le (p.body.size : Int)
    refine vc_skip ?_
    refine thn ?_
    refine vc_sr ?_
    refine vo ?_
    refine voc c_spec_FlowOf rfl rfl ?_
    iterate 2 refine vo ?_
    refine vnt ?_
    refine vc_sr ?_
    iterate 2 refine vo ?_
    refine voc c_spec_StreamIndex rfl rfl ?_
    refine vo ?_
    refine vnt ?_
    refine vc_sr ?_
    iterate 4 refine vo ?_
    refine vnt ?_
    refine vc_seq' ?_
    refine vc_sr ?_
    iterate 3 refine vo ?_
    refine vnt ?_
    refine vc_if (fun g2 => ?_) (fun g2 => ?_)
    · refine vc_seq' ?_
      refine vc_sr ?_
      iterate 2 refine vo ?_
      refine vnt ?_
      refine vc_if (fun g3 => ?_) (fun g3 => ?_)
      · refine vc_sr ?_
        iterate 2 refine vo ?_
        try first | refine vlb ?_ | refine vln ?_
        refine vo ?_
        refine vnt ?_
        refine vc_region ?_
        iterate 5 refine vo ?_
        rw [app_sm]
        generalize h2 : l ++ [(_ : Sm)] = l2
        obtain ⟨al2, nl2⟩ := at_app2 h2
        refine vo ?_
        refine vnt ?_
        refine vc_sr ?_
        iterate 5 refine vo ?_
        try with_reducible (first | refine vep ?_ | refine vpt ?_)
        iterate 2 refine vo ?_
        have hzz : (⟨#[]⟩ : ByteArray).size = 0 := rfl
        rw [al2]
        iterate 3 refine vo ?_
        refine voc c_spec_Word16 rfl rfl ?_
        refine vzs (word16_le _) fun z1 => ?_
        iterate 5 refine vo ?_
        try with_reducible (first | refine vep ?_ | refine vpt ?_)
        iterate 2 refine vo ?_
        rw [set_sm]
        generalize h3 : List.set l2 l.length _ = l3
        obtain ⟨al3, nl3⟩ := at_set2 h3 (by omega)
        try rw [al3]
        refine vnt ?_
        refine vc_sr ?_
        iterate 2 refine vo ?_
        refine vnt ?_
        refine vc_ret ?_
        refine thn_r ?_
        rw [al2] at h3
        have hd : dlF l p = _ := dl_un hs g2 g3
        refine fin_i [(0, some 280)] rfl (fz ?_) (fz ?_)
        · trivial
        · rw [hd, ← h3, ← h2, set_app]; simp [Pk.dg, ByteArray.append_assoc, lit_app]
      · obtain ⟨i, hi, hie⟩ := smIdx_ge (l := l) (kind := p.kind) (si := p.si) (di := p.di) (sp := p.sp) (dp := p.dp) (by omega)
        have hix : p.ix l = i := hie
        rw [hie]
        have hzi := hz _ (atp_mem hi)
        refine vc_skip ?_
        refine thn ?_
        refine vc_sr ?_
        iterate 5 refine vo ?_
        try with_reducible (first | refine vep ?_ | refine vpt ?_)
        iterate 5 refine vo ?_
        refine voc c_spec_Word16 rfl rfl ?_
        refine vzs (word16_le _) fun z2 => ?_
        iterate 5 refine vo ?_
        try with_reducible (first | refine vep ?_ | refine vpt ?_)
        iterate 2 refine vo ?_
        rw [set_sm]
        generalize h2 : List.set l i _ = l2
        obtain ⟨al2, nl2⟩ := at_set2 h2 (by omega)
        try rw [al2]
        refine vnt ?_
        refine vc_sr ?_
        iterate 2 refine vo ?_
        refine vnt ?_
        refine vc_ret ?_
        refine thn_r ?_
        have hd : dlF l p = _ := dl_uo hs g2 hix
        refine fin_i [(0, some 96)] rfl (fz ?_) (fz ?_)
        · trivial
        · rw [hd, ← h2]; simp [Pk.dg, ByteArray.append_assoc]
    · refine vc_skip ?_
      refine thn ?_
      refine vc_seq' ?_
      refine vc_sr ?_
      iterate 4 refine vo ?_
      refine vnt ?_
      refine vc_if (fun g4 => ?_) (fun g4 => ?_)
      · refine vc_seq' ?_
        refine vc_sr ?_
        iterate 2 refine vo ?_
        refine vnt ?_
        refine vc_if (fun g5 => ?_) (fun g5 => ?_)
        · refine vc_region ?_
          iterate 5 refine vo ?_
          try refine vwr ?_
          refine vo ?_
          try refine veq (Int.tmod_eq_emod_of_nonneg (by omega)) ?_
          iterate 4 refine vo ?_
          refine vnt ?_
          refine vc_sr ?_
          iterate 2 refine vo ?_
          refine vnt ?_
          refine vc_ret ?_
          refine thn_r ?_
          have hd : dlF l p = _ := dl_sn hs g2 g4 g5
          refine fin_i [(0, some 544)] rfl (fz ?_) (fz ?_)
          · trivial
          · rw [hd]; simp [smE]
        · refine vc_skip ?_
          refine thn ?_
          refine vc_sr ?_
          iterate 2 refine vo ?_
          refine vnt ?_
          refine vc_ret ?_
          refine thn_r ?_
          have hd : dlF l p = _ := dl_so hs g2 g4 (show ¬ p.ix l < 0 by unfold Pk.ix; omega)
          refine fin_i [(0, some 96)] rfl (fz ?_) (fz ?_)
          · trivial
          · rw [hd]
      · refine vc_skip ?_
        refine thn ?_
        refine vc_seq' ?_
        refine vc_sr ?_
        iterate 3 refine vo ?_
        refine vsp (fun g6 => ?_) (fun g6 => ?_)
        · iterate 5 refine vof ?_
          iterate 2 refine vo ?_
          iterate 4 refine vof ?_
          refine vo ?_
          refine vnt ?_
          refine vc_then ?_
          refine vc_sr ?_
          iterate 2 refine vo ?_
          refine vnt ?_
          refine vc_ret ?_
          refine thn_r ?_
          have hd : dlF l p = _ := dl_x hs g2 g4 (.inl g6)
          refine fin_i [(0, some 96)] rfl (fz ?_) (fz ?_)
          · trivial
          · rw [hd]
        · obtain ⟨i, hi, hie⟩ := smIdx_ge (l := l) (kind := p.kind) (si := p.si) (di := p.di) (sp := p.sp) (dp := p.dp) (by omega)
          have hix : p.ix l = i := hie
          rw [hie]
          have hzi := hz _ (atp_mem hi)
          iterate 3 refine von ?_
          try with_reducible (first | refine vep ?_ | refine vpt ?_)
          iterate 2 refine von ?_
          iterate 2 refine vo ?_
          refine vsp (fun g7 => ?_) (fun g7 => ?_)
          · iterate 4 refine vof ?_
            refine vo ?_
            refine vnt ?_
            refine vc_then ?_
            refine vc_sr ?_
            iterate 2 refine vo ?_
            refine vnt ?_
            refine vc_ret ?_
            refine thn_r ?_
            have hd : dlF l p = _ := dl_x hs g2 g4 (.inr (.inl (by rw [hix]; exact g7)))
            refine fin_i [(0, some 96)] rfl (fz ?_) (fz ?_)
            · trivial
            · rw [hd]
          · iterate 4 refine von ?_
            refine vo ?_
            refine vnt ?_
            refine vc_if (fun g8 => ?_) (fun g8 => ?_)
            · refine vc_sr ?_
              iterate 2 refine vo ?_
              refine vnt ?_
              refine vc_ret ?_
              refine thn_r ?_
              have hd : dlF l p = _ := dl_x hs g2 g4 (.inr (.inr g8))
              refine fin_i [(0, some 96)] rfl (fz ?_) (fz ?_)
              · trivial
              · rw [hd]
            · have hob := dlO_bd (at' l i) p
              refine vc_skip ?_
              refine thn ?_
              refine vc_sr ?_
              iterate 3 refine vo ?_
              try with_reducible (first | refine vep ?_ | refine vpt ?_)
              iterate 5 refine vo ?_
              try refine vwr ?_
              refine vo ?_
              refine veq (show _ = dlO (at' l i) p from (and32 _).trans (wr_mod _)) ?_
              refine vo ?_
              refine vnt ?_
              refine vc_seq' ?_
              refine vc_sr ?_
              iterate 5 refine vo ?_
              refine vnt ?_
              refine vc_if (fun g9 => ?_) (fun g9 => ?_)
              · refine vc_sr ?_
                iterate 5 refine vo ?_
                try with_reducible (first | refine vep ?_ | refine vpt ?_)
                iterate 6 refine vo ?_
                try first | refine vdr ?_ | refine vtk ?_
                iterate 2 refine vo ?_
                try with_reducible (first | refine vep ?_ | refine vpt ?_)
                iterate 2 refine vo ?_
                rw [set_sm]
                generalize h2 : List.set l i _ = l2
                obtain ⟨al2, nl2⟩ := at_set2 h2 (by omega)
                try rw [al2]
                refine vnt ?_
                refine vc_sr ?_
                iterate 5 refine vo ?_
                try with_reducible (first | refine vep ?_ | refine vpt ?_)
                iterate 2 refine vo ?_
                rw [al2]
                refine vo ?_
                refine veq (and32 _) ?_
                iterate 4 refine vo ?_
                try refine vwr ?_
                iterate 2 refine vo ?_
                try refine vwr ?_
                refine vo ?_
                try refine veq (Int.tmod_eq_emod_of_nonneg (by omega)) ?_
                refine veq (show _ = ((at' l i).next + (p.body.size : Int) - dlO (at' l i) p) % 4294967296 from sp_mod _ _ _) ?_
                refine vo ?_
                try with_reducible (first | refine vep ?_ | refine vpt ?_)
                iterate 2 refine vo ?_
                rw [set_sm]
                generalize h3 : List.set l2 i _ = l3
                obtain ⟨al3, nl3⟩ := at_set2 h3 (by omega)
                try rw [al3]
                refine vnt ?_
                refine vc_region ?_
                iterate 7 refine vo ?_
                try with_reducible (first | refine vep ?_ | refine vpt ?_)
                iterate 2 refine vo ?_
                rw [set_sm]
                generalize h4 : List.set l3 i _ = l4
                obtain ⟨al4, nl4⟩ := at_set2 h4 (by omega)
                try rw [al4]
                refine vnt ?_
                refine vc_sr ?_
                iterate 2 refine vo ?_
                refine vnt ?_
                refine vc_ret ?_
                rw [al2] at al3 h3
                rw [al3] at h4
                have hd : dlF l p = _ := (dl_y hs g2 g4 hix g7 g8).trans (if_pos g9)
                refine fin_i [(0, some 96)] rfl (fz ?_) (fz ?_)
                · trivial
                · rw [hd, ← h4, ← h3, ← h2, List.set_set, List.set_set]; rfl
              · refine vc_skip ?_
                refine thn ?_
                refine vc_sr ?_
                iterate 2 refine vo ?_
                refine vnt ?_
                refine vc_ret ?_
                have hd : dlF l p = _ := (dl_y hs g2 g4 hix g7 g8).trans (if_neg (by omega))
                refine fin_i [(0, some 96)] rfl (fz ?_) (fz ?_)
                · trivial
                · rw [hd]
end Go.Proofs.YtbdcaacpemkloaaGreat
end
