/- The walk of FnExactHasCompletion. -/
import Derived.Test.YtelkplponnfkpaaRows
import Derived.Test.YtelkplponnfkpaaHas
import Derived.Test.YtelkplponnfkpaaMLaw4
import Derived.Test.YtelkplponnfkpaaStc
import Derived.Test.YtelkplponnfkpaaTk
namespace Go.Proofs.Ytelkplponnfkpaa
open Go.RowKit
set_option linter.unusedVariables false
set_option linter.unusedSimpArgs false

set_option maxRecDepth 100000 in
set_option maxHeartbeats 16000000 in
theorem walk_FnExactHasCompletion (w : World) (aList : Value) (aListD : List (Int × Int × Int × Bool)) (haList : Holds w aListD [aList]) (aM : Array Value) (aMD : List ByteArray) (haM : Holds w aMD aM.toList) (aDomain : Int) (haDomain : i64ok aDomain) (aQ_Ring_Base : Int) (haQ_Ring_Base : i64ok aQ_Ring_Base) (aQ_Ring_Size : Int) (haQ_Ring_Size : i64ok aQ_Ring_Size) (aQ_Ring_Head : Int) (haQ_Ring_Head : i64ok aQ_Ring_Head) (aQ_Ring_Tail : Int) (haQ_Ring_Tail : i64ok aQ_Ring_Tail) (aQ_Device_Base : Int) (haQ_Device_Base : i64ok aQ_Device_Base) (aQ_Device_Size : Int) (haQ_Device_Size : i64ok aQ_Device_Size) (aQ_Device_Count : Int) (haQ_Device_Count : i64ok aQ_Device_Count) (aQ_Driver_Base : Int) (haQ_Driver_Base : i64ok aQ_Driver_Base) (aQ_Driver_Size : Int) (haQ_Driver_Size : i64ok aQ_Driver_Size) (aQ_Driver_Count : Int) (haQ_Driver_Count : i64ok aQ_Driver_Count) (aQ_Held_Packet_DstMac : Int) (haQ_Held_Packet_DstMac : i64ok aQ_Held_Packet_DstMac) (aQ_Held_Packet_SrcMac : Int) (haQ_Held_Packet_SrcMac : i64ok aQ_Held_Packet_SrcMac) (aQ_Held_Packet_Vlan : Int) (haQ_Held_Packet_Vlan : i64ok aQ_Held_Packet_Vlan) (aQ_Held_Packet_Tos : Int) (haQ_Held_Packet_Tos : i64ok aQ_Held_Packet_Tos) (aQ_Held_Packet_Id : Int) (haQ_Held_Packet_Id : i64ok aQ_Held_Packet_Id) (aQ_Held_Packet_Ttl : Int) (haQ_Held_Packet_Ttl : i64ok aQ_Held_Packet_Ttl) (aQ_Held_Packet_SrcIp : Int) (haQ_Held_Packet_SrcIp : i64ok aQ_Held_Packet_SrcIp) (aQ_Held_Packet_DstIp : Int) (haQ_Held_Packet_DstIp : i64ok aQ_Held_Packet_DstIp) (aQ_Held_Packet_Seg_Kind : Int) (haQ_Held_Packet_Seg_Kind : i64ok aQ_Held_Packet_Seg_Kind) (aQ_Held_Packet_Seg_SrcPort : Int) (haQ_Held_Packet_Seg_SrcPort : i64ok aQ_Held_Packet_Seg_SrcPort) (aQ_Held_Packet_Seg_DstPort : Int) (haQ_Held_Packet_Seg_DstPort : i64ok aQ_Held_Packet_Seg_DstPort) (aQ_Held_Packet_Seg_Seq : Int) (haQ_Held_Packet_Seg_Seq : i64ok aQ_Held_Packet_Seg_Seq) (aQ_Held_Packet_Seg_Ack : Int) (haQ_Held_Packet_Seg_Ack : i64ok aQ_Held_Packet_Seg_Ack) (aQ_Held_Packet_Seg_Flags : Int) (haQ_Held_Packet_Seg_Flags : i64ok aQ_Held_Packet_Seg_Flags) (aQ_Held_Packet_Seg_Window : Int) (haQ_Held_Packet_Seg_Window : i64ok aQ_Held_Packet_Seg_Window) (aQ_Held_Packet_Seg_Body : ByteArray) (haQ_Held_Packet_Seg_Body : aQ_Held_Packet_Seg_Body.size ≤ maxLen) (aQ_Held_Size : Int) (haQ_Held_Size : i64ok aQ_Held_Size) (aQ_Held_Count : Int) (haQ_Held_Count : i64ok aQ_Held_Count) (aQ_Holding : Bool) (aQ_Dropped : Int) (haQ_Dropped : i64ok aQ_Dropped) :
    Calls Try.prog 6 #[aList, .agg aM, .int .i64 aDomain, .agg #[.int .i64 aQ_Ring_Base, .int .i64 aQ_Ring_Size, .int .i64 aQ_Ring_Head, .int .i64 aQ_Ring_Tail, .int .i64 aQ_Device_Base, .int .i64 aQ_Device_Size, .int .i64 aQ_Device_Count, .int .i64 aQ_Driver_Base, .int .i64 aQ_Driver_Size, .int .i64 aQ_Driver_Count, .int .i64 aQ_Held_Packet_DstMac, .int .i64 aQ_Held_Packet_SrcMac, .int .i64 aQ_Held_Packet_Vlan, .int .i64 aQ_Held_Packet_Tos, .int .i64 aQ_Held_Packet_Id, .int .i64 aQ_Held_Packet_Ttl, .int .i64 aQ_Held_Packet_SrcIp, .int .i64 aQ_Held_Packet_DstIp, .int .i64 aQ_Held_Packet_Seg_Kind, .int .i64 aQ_Held_Packet_Seg_SrcPort, .int .i64 aQ_Held_Packet_Seg_DstPort, .int .i64 aQ_Held_Packet_Seg_Seq, .int .i64 aQ_Held_Packet_Seg_Ack, .int .i64 aQ_Held_Packet_Seg_Flags, .int .i64 aQ_Held_Packet_Seg_Window, .string aQ_Held_Packet_Seg_Body, .int .i64 aQ_Held_Size, .int .i64 aQ_Held_Count, .bool aQ_Holding, .int .i64 aQ_Dropped]] w fun e w' => e = .returned (.bool true) ∧ Ex w w' := by
  obtain ⟨AA, cap, rfl, z1, z2⟩ := haList.fl
  unfold maxLen at z2
  obtain ⟨vM, rfl⟩ : ∃ v, aM = #[v] := by
    obtain ⟨bs, a, c, hv, _⟩ := haM
    exact ⟨_, Array.toList_inj.1 hv⟩
  have k2 : Holds w aMD [vM] := haM
  have k1 := haList
  obtain ⟨BB, cap2, rfl, y1, y2⟩ := k2.fl
  unfold maxLen at y2
  clear haM haList
  have HBD : Hid (aQ_Held_Packet_Seg_Body.size ≤ maxLen) := hid haQ_Held_Packet_Seg_Body
  have hbd := haQ_Held_Packet_Seg_Body
  unfold maxLen at hbd
  by_cases hb1 : (1048576 : Int) < aListD.length
  case pos =>
    have HS := St.start w
    go_enter Try.func6, Try.ntmps6
    go_wp2_with (first
          | (go_at_call 16; (with_reducible refine (szMappingS_gt _ aListD _ _ (k1.ex HS.ex) (by omega) (by omega) (by omega)).mono ?_); rintro e w' ⟨rfl, hx⟩; replace HS := HS.grow hx; clear hx)
          | ((with_reducible (show wpList _ _ _ (Oper.mk (some 5) (Op.box _ _) _ _ _ _ :: _) _ _)); refine wpList_box_st (o := ⟨some 5, .box _ _, _, _, _, _⟩) rfl _ _ rfl (v := .agg (List.toArray _)) rfl HS ?_; clear HS; intro w5 b5 hb5 HS; simp only [Value.cells] at HS)
          | ((with_reducible (show wpList _ _ _ (Oper.mk (some 5) (Op.box _ _) _ _ _ _ :: _) _ _)); refine wpList_box_st (o := ⟨some 5, .box _ _, _, _, _, _⟩) rfl _ _ rfl (v := .agg _) rfl HS ?_; clear HS; intro w5 b5 hb5 HS; simp only [Value.cells] at HS)
          | ((with_reducible (show wpList _ _ _ (Oper.mk (some 7) (Op.box _ _) _ _ _ _ :: _) _ _)); refine wpList_box_st (o := ⟨some 7, .box _ _, _, _, _, _⟩) rfl _ _ rfl (v := .agg (List.toArray _)) rfl HS ?_; clear HS; intro w7 b7 hb7 HS; simp only [Value.cells] at HS)
          | ((with_reducible (show wpList _ _ _ (Oper.mk (some 7) (Op.box _ _) _ _ _ _ :: _) _ _)); refine wpList_box_st (o := ⟨some 7, .box _ _, _, _, _, _⟩) rfl _ _ rfl (v := .agg _) rfl HS ?_; clear HS; intro w7 b7 hb7 HS; simp only [Value.cells] at HS)
          | ((with_reducible (show wpList _ _ _ (Oper.mk (some 19) (Op.load _ _) _ _ _ _ :: _) _ _)); refine wpList_loadA_st (o := ⟨some 19, .load _ _, _, _, _, _⟩) rfl _ _ rfl rfl HS tk ag_laws_Memory lit rfl ?_)
          | ((with_reducible (show wpList _ _ _ (Oper.mk (some 24) (Op.load _ _) _ _ _ _ :: _) _ _)); refine wpList_loadA_st (o := ⟨some 24, .load _ _, _, _, _, _⟩) rfl _ _ rfl rfl HS tk ag_laws_RxQueue lit rfl ?_)
          | ((with_reducible (show wpList _ _ _ (Oper.mk (some 39) (Op.load _ _) _ _ _ _ :: _) _ _)); refine wpList_loadA_st (o := ⟨some 39, .load _ _, _, _, _, _⟩) rfl _ _ rfl rfl HS tk ag_laws_Memory lit rfl ?_)
          | ((with_reducible (show wpList _ _ _ (Oper.mk (some 12) (Op.alloc _) _ _ _ _ :: _) _ _)); refine wpList_alloc_st (o := ⟨some 12, .alloc _, _, _, _, _⟩) rfl _ rfl zc_impl_Memory HS ?_; clear HS; intro w12 b12 hb12 HS)
          | ((with_reducible (show wpList _ _ _ (Oper.mk none (Op.store _ (.tmp 12) _) _ _ _ _ :: _) _ _)); refine wpList_store_st (o := ⟨none, .store _ (.tmp 12) _, _, _, _, _⟩) rfl _ _ _ rfl rfl (v := .agg (List.toArray _)) rfl HS tk sz_impl_Memory vcs rfx rfx (by simp) ?_ rfl; clear HS; intro w13_3 hz13_3 HS; simp only [nicL, Value.cells, List.append_nil] at HS)
          | ((with_reducible (show wpList _ _ _ (Oper.mk none (Op.store _ (.tmp 12) _) _ _ _ _ :: _) _ _)); refine wpList_store_st (o := ⟨none, .store _ (.tmp 12) _, _, _, _, _⟩) rfl _ _ _ rfl rfl (v := .agg _) rfl HS tk sz_impl_Memory vcs rfx rfx (by simp) ?_ rfl; clear HS; intro w13_3 hz13_3 HS; simp only [nicL, Value.cells, List.append_nil] at HS))
    go_ret
    exact ⟨rfl, HS.ex⟩
  case neg =>
  by_cases hb2 : (1048576 : Int) - aListD.length < ((aMD.length + totS aMD : Nat) : Int)
  case pos =>
    have HS := St.start w
    go_enter Try.func6, Try.ntmps6
    go_wp2_with (first
          | (go_at_call 16; (with_reducible refine (szMappingS_le _ aListD _ _ (k1.ex HS.ex) (by omega) (by omega)).mono ?_); rintro e w' ⟨rfl, hx⟩; replace HS := HS.grow hx; clear hx)
          | (go_at_call 17; (with_reducible refine (szMemory_gt _ aMD _ _ (k2.ex HS.ex) (by omega) (by omega) (by omega)).mono ?_); rintro e w' ⟨rfl, hx⟩; replace HS := HS.grow hx; clear hx)
          | ((with_reducible (show wpList _ _ _ (Oper.mk (some 5) (Op.box _ _) _ _ _ _ :: _) _ _)); refine wpList_box_st (o := ⟨some 5, .box _ _, _, _, _, _⟩) rfl _ _ rfl (v := .agg (List.toArray _)) rfl HS ?_; clear HS; intro w5 b5 hb5 HS; simp only [Value.cells] at HS)
          | ((with_reducible (show wpList _ _ _ (Oper.mk (some 5) (Op.box _ _) _ _ _ _ :: _) _ _)); refine wpList_box_st (o := ⟨some 5, .box _ _, _, _, _, _⟩) rfl _ _ rfl (v := .agg _) rfl HS ?_; clear HS; intro w5 b5 hb5 HS; simp only [Value.cells] at HS)
          | ((with_reducible (show wpList _ _ _ (Oper.mk (some 7) (Op.box _ _) _ _ _ _ :: _) _ _)); refine wpList_box_st (o := ⟨some 7, .box _ _, _, _, _, _⟩) rfl _ _ rfl (v := .agg (List.toArray _)) rfl HS ?_; clear HS; intro w7 b7 hb7 HS; simp only [Value.cells] at HS)
          | ((with_reducible (show wpList _ _ _ (Oper.mk (some 7) (Op.box _ _) _ _ _ _ :: _) _ _)); refine wpList_box_st (o := ⟨some 7, .box _ _, _, _, _, _⟩) rfl _ _ rfl (v := .agg _) rfl HS ?_; clear HS; intro w7 b7 hb7 HS; simp only [Value.cells] at HS)
          | ((with_reducible (show wpList _ _ _ (Oper.mk (some 19) (Op.load _ _) _ _ _ _ :: _) _ _)); refine wpList_loadA_st (o := ⟨some 19, .load _ _, _, _, _, _⟩) rfl _ _ rfl rfl HS tk ag_laws_Memory lit rfl ?_)
          | ((with_reducible (show wpList _ _ _ (Oper.mk (some 24) (Op.load _ _) _ _ _ _ :: _) _ _)); refine wpList_loadA_st (o := ⟨some 24, .load _ _, _, _, _, _⟩) rfl _ _ rfl rfl HS tk ag_laws_RxQueue lit rfl ?_)
          | ((with_reducible (show wpList _ _ _ (Oper.mk (some 39) (Op.load _ _) _ _ _ _ :: _) _ _)); refine wpList_loadA_st (o := ⟨some 39, .load _ _, _, _, _, _⟩) rfl _ _ rfl rfl HS tk ag_laws_Memory lit rfl ?_)
          | ((with_reducible (show wpList _ _ _ (Oper.mk (some 12) (Op.alloc _) _ _ _ _ :: _) _ _)); refine wpList_alloc_st (o := ⟨some 12, .alloc _, _, _, _, _⟩) rfl _ rfl zc_impl_Memory HS ?_; clear HS; intro w12 b12 hb12 HS)
          | ((with_reducible (show wpList _ _ _ (Oper.mk none (Op.store _ (.tmp 12) _) _ _ _ _ :: _) _ _)); refine wpList_store_st (o := ⟨none, .store _ (.tmp 12) _, _, _, _, _⟩) rfl _ _ _ rfl rfl (v := .agg (List.toArray _)) rfl HS tk sz_impl_Memory vcs rfx rfx (by simp) ?_ rfl; clear HS; intro w13_3 hz13_3 HS; simp only [nicL, Value.cells, List.append_nil] at HS)
          | ((with_reducible (show wpList _ _ _ (Oper.mk none (Op.store _ (.tmp 12) _) _ _ _ _ :: _) _ _)); refine wpList_store_st (o := ⟨none, .store _ (.tmp 12) _, _, _, _, _⟩) rfl _ _ _ rfl rfl (v := .agg _) rfl HS tk sz_impl_Memory vcs rfx rfx (by simp) ?_ rfl; clear HS; intro w13_3 hz13_3 HS; simp only [nicL, Value.cells, List.append_nil] at HS))
    go_ret
    exact ⟨rfl, HS.ex⟩
  case neg =>
  by_cases hb3 : (1048576 : Int) - aListD.length - ((aMD.length + totS aMD : Nat) : Int) < (aQ_Held_Packet_Seg_Body.size : Int)
  case pos =>
    have HS := St.start w
    go_enter Try.func6, Try.ntmps6
    go_wp2_with (first
          | (go_at_call 16; (with_reducible refine (szMappingS_le _ aListD _ _ (k1.ex HS.ex) (by omega) (by omega)).mono ?_); rintro e w' ⟨rfl, hx⟩; replace HS := HS.grow hx; clear hx)
          | (go_at_call 17; (with_reducible refine (szMemory_le _ aMD _ _ (k2.ex HS.ex) (by omega) (by omega)).mono ?_); rintro e w' ⟨rfl, hx⟩; replace HS := HS.grow hx; clear hx)
          | (go_at_call 31; (with_reducible refine (szRxQueue_gt_r aQ_Ring_Base aQ_Ring_Size aQ_Ring_Head aQ_Ring_Tail aQ_Device_Base aQ_Device_Size aQ_Device_Count aQ_Driver_Base aQ_Driver_Size aQ_Driver_Count aQ_Held_Packet_DstMac aQ_Held_Packet_SrcMac aQ_Held_Packet_Vlan aQ_Held_Packet_Tos aQ_Held_Packet_Id aQ_Held_Packet_Ttl aQ_Held_Packet_SrcIp aQ_Held_Packet_DstIp aQ_Held_Packet_Seg_Kind aQ_Held_Packet_Seg_SrcPort aQ_Held_Packet_Seg_DstPort aQ_Held_Packet_Seg_Seq aQ_Held_Packet_Seg_Ack aQ_Held_Packet_Seg_Flags aQ_Held_Packet_Seg_Window aQ_Held_Packet_Seg_Body aQ_Held_Size aQ_Held_Count aQ_Holding aQ_Dropped _ _ (by omega) (by omega) (by omega) HBD.out).mono ?_); rintro e w' ⟨rfl, hx⟩; replace HS := HS.grow hx; clear hx)
          | ((with_reducible (show wpList _ _ _ (Oper.mk (some 5) (Op.box _ _) _ _ _ _ :: _) _ _)); refine wpList_box_st (o := ⟨some 5, .box _ _, _, _, _, _⟩) rfl _ _ rfl (v := .agg (List.toArray _)) rfl HS ?_; clear HS; intro w5 b5 hb5 HS; simp only [Value.cells] at HS)
          | ((with_reducible (show wpList _ _ _ (Oper.mk (some 5) (Op.box _ _) _ _ _ _ :: _) _ _)); refine wpList_box_st (o := ⟨some 5, .box _ _, _, _, _, _⟩) rfl _ _ rfl (v := .agg _) rfl HS ?_; clear HS; intro w5 b5 hb5 HS; simp only [Value.cells] at HS)
          | ((with_reducible (show wpList _ _ _ (Oper.mk (some 7) (Op.box _ _) _ _ _ _ :: _) _ _)); refine wpList_box_st (o := ⟨some 7, .box _ _, _, _, _, _⟩) rfl _ _ rfl (v := .agg (List.toArray _)) rfl HS ?_; clear HS; intro w7 b7 hb7 HS; simp only [Value.cells] at HS)
          | ((with_reducible (show wpList _ _ _ (Oper.mk (some 7) (Op.box _ _) _ _ _ _ :: _) _ _)); refine wpList_box_st (o := ⟨some 7, .box _ _, _, _, _, _⟩) rfl _ _ rfl (v := .agg _) rfl HS ?_; clear HS; intro w7 b7 hb7 HS; simp only [Value.cells] at HS)
          | ((with_reducible (show wpList _ _ _ (Oper.mk (some 19) (Op.load _ _) _ _ _ _ :: _) _ _)); refine wpList_loadA_st (o := ⟨some 19, .load _ _, _, _, _, _⟩) rfl _ _ rfl rfl HS tk ag_laws_Memory lit rfl ?_)
          | ((with_reducible (show wpList _ _ _ (Oper.mk (some 24) (Op.load _ _) _ _ _ _ :: _) _ _)); refine wpList_loadA_st (o := ⟨some 24, .load _ _, _, _, _, _⟩) rfl _ _ rfl rfl HS tk ag_laws_RxQueue lit rfl ?_)
          | ((with_reducible (show wpList _ _ _ (Oper.mk (some 39) (Op.load _ _) _ _ _ _ :: _) _ _)); refine wpList_loadA_st (o := ⟨some 39, .load _ _, _, _, _, _⟩) rfl _ _ rfl rfl HS tk ag_laws_Memory lit rfl ?_)
          | ((with_reducible (show wpList _ _ _ (Oper.mk (some 12) (Op.alloc _) _ _ _ _ :: _) _ _)); refine wpList_alloc_st (o := ⟨some 12, .alloc _, _, _, _, _⟩) rfl _ rfl zc_impl_Memory HS ?_; clear HS; intro w12 b12 hb12 HS)
          | ((with_reducible (show wpList _ _ _ (Oper.mk none (Op.store _ (.tmp 12) _) _ _ _ _ :: _) _ _)); refine wpList_store_st (o := ⟨none, .store _ (.tmp 12) _, _, _, _, _⟩) rfl _ _ _ rfl rfl (v := .agg (List.toArray _)) rfl HS tk sz_impl_Memory vcs rfx rfx (by simp) ?_ rfl; clear HS; intro w13_3 hz13_3 HS; simp only [nicL, Value.cells, List.append_nil] at HS)
          | ((with_reducible (show wpList _ _ _ (Oper.mk none (Op.store _ (.tmp 12) _) _ _ _ _ :: _) _ _)); refine wpList_store_st (o := ⟨none, .store _ (.tmp 12) _, _, _, _, _⟩) rfl _ _ _ rfl rfl (v := .agg _) rfl HS tk sz_impl_Memory vcs rfx rfx (by simp) ?_ rfl; clear HS; intro w13_3 hz13_3 HS; simp only [nicL, Value.cells, List.append_nil] at HS))
    go_ret
    exact ⟨rfl, HS.ex⟩
  case neg =>
  have hlm : aMD.length ≤ 1099511627776 := by omega
  obtain ⟨r, hr⟩ : ∃ r, ((rxOkB aQ_Ring_Base aQ_Ring_Size aQ_Ring_Head aQ_Ring_Tail aQ_Device_Base aQ_Device_Size aQ_Device_Count aQ_Driver_Base aQ_Driver_Size aQ_Driver_Count aQ_Held_Packet_DstMac aQ_Held_Packet_SrcMac aQ_Held_Packet_Vlan aQ_Held_Packet_Tos aQ_Held_Packet_Id aQ_Held_Packet_Ttl aQ_Held_Packet_SrcIp aQ_Held_Packet_DstIp aQ_Held_Packet_Seg_Kind aQ_Held_Packet_Seg_SrcPort aQ_Held_Packet_Seg_DstPort aQ_Held_Packet_Seg_Seq aQ_Held_Packet_Seg_Ack aQ_Held_Packet_Seg_Flags aQ_Held_Packet_Seg_Window aQ_Held_Packet_Seg_Body aQ_Held_Size aQ_Held_Count aQ_Holding aQ_Dropped) && (nextF aListD aMD aDomain aQ_Driver_Base aQ_Driver_Size aQ_Driver_Count).2.2) = r := ⟨_, rfl⟩
  have HV := hid hr
  clear hr
  have HS := St.start w
  go_enter Try.func6, Try.ntmps6
  go_wp2_with (first
        | (go_at_call 16; (with_reducible refine (szMappingS_le _ aListD _ _ (k1.ex HS.ex) (by omega) (by omega)).mono ?_); rintro e w' ⟨rfl, hx⟩; replace HS := HS.grow hx; clear hx)
        | (go_at_call 17; (with_reducible refine (szMemory_le _ aMD _ _ (k2.ex HS.ex) (by omega) (by omega)).mono ?_); rintro e w' ⟨rfl, hx⟩; replace HS := HS.grow hx; clear hx)
        | (go_at_call 31; (with_reducible refine (szRxQueue_le_r aQ_Ring_Base aQ_Ring_Size aQ_Ring_Head aQ_Ring_Tail aQ_Device_Base aQ_Device_Size aQ_Device_Count aQ_Driver_Base aQ_Driver_Size aQ_Driver_Count aQ_Held_Packet_DstMac aQ_Held_Packet_SrcMac aQ_Held_Packet_Vlan aQ_Held_Packet_Tos aQ_Held_Packet_Id aQ_Held_Packet_Ttl aQ_Held_Packet_SrcIp aQ_Held_Packet_DstIp aQ_Held_Packet_Seg_Kind aQ_Held_Packet_Seg_SrcPort aQ_Held_Packet_Seg_DstPort aQ_Held_Packet_Seg_Seq aQ_Held_Packet_Seg_Ack aQ_Held_Packet_Seg_Flags aQ_Held_Packet_Seg_Window aQ_Held_Packet_Seg_Body aQ_Held_Size aQ_Held_Count aQ_Holding aQ_Dropped _ _ (by omega) (by omega) HBD.out).mono ?_); rintro e w' ⟨rfl, hx⟩; replace HS := HS.grow hx; clear hx)
        | ((with_reducible (show wpList _ _ _ (Oper.mk (some 5) (Op.box _ _) _ _ _ _ :: _) _ _)); refine wpList_box_st (o := ⟨some 5, .box _ _, _, _, _, _⟩) rfl _ _ rfl (v := .agg (List.toArray _)) rfl HS ?_; clear HS; intro w5 b5 hb5 HS; simp only [Value.cells] at HS)
        | ((with_reducible (show wpList _ _ _ (Oper.mk (some 5) (Op.box _ _) _ _ _ _ :: _) _ _)); refine wpList_box_st (o := ⟨some 5, .box _ _, _, _, _, _⟩) rfl _ _ rfl (v := .agg _) rfl HS ?_; clear HS; intro w5 b5 hb5 HS; simp only [Value.cells] at HS)
        | ((with_reducible (show wpList _ _ _ (Oper.mk (some 7) (Op.box _ _) _ _ _ _ :: _) _ _)); refine wpList_box_st (o := ⟨some 7, .box _ _, _, _, _, _⟩) rfl _ _ rfl (v := .agg (List.toArray _)) rfl HS ?_; clear HS; intro w7 b7 hb7 HS; simp only [Value.cells] at HS)
        | ((with_reducible (show wpList _ _ _ (Oper.mk (some 7) (Op.box _ _) _ _ _ _ :: _) _ _)); refine wpList_box_st (o := ⟨some 7, .box _ _, _, _, _, _⟩) rfl _ _ rfl (v := .agg _) rfl HS ?_; clear HS; intro w7 b7 hb7 HS; simp only [Value.cells] at HS)
        | ((with_reducible (show wpList _ _ _ (Oper.mk (some 19) (Op.load _ _) _ _ _ _ :: _) _ _)); refine wpList_loadA_st (o := ⟨some 19, .load _ _, _, _, _, _⟩) rfl _ _ rfl rfl HS tk ag_laws_Memory lit rfl ?_)
        | ((with_reducible (show wpList _ _ _ (Oper.mk (some 24) (Op.load _ _) _ _ _ _ :: _) _ _)); refine wpList_loadA_st (o := ⟨some 24, .load _ _, _, _, _, _⟩) rfl _ _ rfl rfl HS tk ag_laws_RxQueue lit rfl ?_)
        | ((with_reducible (show wpList _ _ _ (Oper.mk (some 39) (Op.load _ _) _ _ _ _ :: _) _ _)); refine wpList_loadA_st (o := ⟨some 39, .load _ _, _, _, _, _⟩) rfl _ _ rfl rfl HS tk ag_laws_Memory lit rfl ?_)
        | ((with_reducible (show wpList _ _ _ (Oper.mk (some 12) (Op.alloc _) _ _ _ _ :: _) _ _)); refine wpList_alloc_st (o := ⟨some 12, .alloc _, _, _, _, _⟩) rfl _ rfl zc_impl_Memory HS ?_; clear HS; intro w12 b12 hb12 HS)
        | ((with_reducible (show wpList _ _ _ (Oper.mk none (Op.store _ (.tmp 12) _) _ _ _ _ :: _) _ _)); refine wpList_store_st (o := ⟨none, .store _ (.tmp 12) _, _, _, _, _⟩) rfl _ _ _ rfl rfl (v := .agg (List.toArray _)) rfl HS tk sz_impl_Memory vcs rfx rfx (by simp) ?_ rfl; clear HS; intro w13_3 hz13_3 HS; simp only [nicL, Value.cells, List.append_nil] at HS)
        | ((with_reducible (show wpList _ _ _ (Oper.mk none (Op.store _ (.tmp 12) _) _ _ _ _ :: _) _ _)); refine wpList_store_st (o := ⟨none, .store _ (.tmp 12) _, _, _, _, _⟩) rfl _ _ _ rfl rfl (v := .agg _) rfl HS tk sz_impl_Memory vcs rfx rfx (by simp) ?_ rfl; clear HS; intro w13_3 hz13_3 HS; simp only [nicL, Value.cells, List.append_nil] at HS))
  refine wp_region_plan_st HS (.early 0 (.early 2 (.early 4 (.early 5 (.forced 1 1 (.forced 3 1 (.forced 6 1 (.forced 7 2 (.forced 8 2 .done))))))))) (by kernel_rfl) (by as_aux_lemma => kernel_rfl) ?_
  intro hne
  replace HS := HS.drew
  try go_simp
  repeat' (first
    | (with_reducible refine wpPlan_forced ?_)
    | ((with_reducible (first | (show wpPlan _ _ _ _ (.early 0 _) _ _) | (show wpPlan _ _ _ _ (.early 4 _) _ _))); (first | (refine wpPlan_skipE rfl rfl ?_; (try go_simp)) | (refine wpPlan_early rfl rfl ?_; intro K hK; (first | go_big_quiet_op); (first | go_big_quiet_on | (refine ⟨_, fun _ => rfl, ?_⟩; go_big_quiet_on)))))
    | ((with_reducible ((show wpPlan _ _ _ _ (.early 2 _) _ _))); (first | (refine wpPlan_skipE rfl rfl ?_; (try go_simp)) | (refine wpPlan_early rfl rfl ?_; intro K hK; (first | ((refine quiet_loadA_st  _ _ rfl rfl tk ag_laws_Memory lit rfl ?_); (try go_simp)) | go_big_quiet_op); (first | go_big_quiet_on | (refine ⟨_, fun _ => rfl, ?_⟩; go_big_quiet_on)))))
    | ((with_reducible ((show wpPlan _ _ _ _ (.early 5 _) _ _))); (first | (refine wpPlan_skipE rfl rfl ?_; (try go_simp)) | (refine wpPlan_early rfl rfl ?_; intro K hK; (first | ((refine quiet_loadA_st  _ _ rfl rfl tk ag_laws_RxQueue lit rfl ?_); (try go_simp)) | go_big_quiet_op); (first | go_big_quiet_on | (refine ⟨_, fun _ => rfl, ?_⟩; go_big_quiet_on)))))
    | ((with_reducible ((show wpOne _ _ _ _ 1 1 _ _ _))); (first | (refine wpOne_skip rfl rfl ?_; (try go_simp)) | (refine wpOne_1 rfl rfl ?_; intro K hK; go_simp; (first | (go_at_call 19; (with_reducible refine (toMappingS_any _ aListD _ (k1.ex HS.ex) (by omega)).mono ?_); rintro e w' ⟨A30, c30, rfl, ho, hx⟩; replace HS := HS.own ho hx; clear ho hx)); (try go_simp); refine hK _ _ ?_ ?_; (focus (exact stw HS)); clear hK K)))
    | ((with_reducible ((show wpOne _ _ _ _ 3 1 _ _ _))); (first | (refine wpOne_skip rfl rfl ?_; (try go_simp)) | (refine wpOne_1 rfl rfl ?_; intro K hK; go_simp; (first | (go_at_call 20; (with_reducible refine (toMemory_any _ aMD _ (k2.ex HS.ex) (by omega)).mono ?_); rintro e w' ⟨A32, c32, rfl, ho, hx⟩; replace HS := HS.own ho hx; clear ho hx)); (try go_simp); refine hK _ _ ?_ ?_; (focus (exact stw HS)); clear hK K)))
    | ((with_reducible ((show wpOne _ _ _ _ 6 1 _ _ _))); (first | (refine wpOne_skip rfl rfl ?_; (try go_simp)) | (refine wpOne_1 rfl rfl ?_; intro K hK; go_simp; (first | (go_at_call 33; (with_reducible refine (toRxQueue_r aQ_Ring_Base aQ_Ring_Size aQ_Ring_Head aQ_Ring_Tail aQ_Device_Base aQ_Device_Size aQ_Device_Count aQ_Driver_Base aQ_Driver_Size aQ_Driver_Count aQ_Held_Packet_DstMac aQ_Held_Packet_SrcMac aQ_Held_Packet_Vlan aQ_Held_Packet_Tos aQ_Held_Packet_Id aQ_Held_Packet_Ttl aQ_Held_Packet_SrcIp aQ_Held_Packet_DstIp aQ_Held_Packet_Seg_Kind aQ_Held_Packet_Seg_SrcPort aQ_Held_Packet_Seg_DstPort aQ_Held_Packet_Seg_Seq aQ_Held_Packet_Seg_Ack aQ_Held_Packet_Seg_Flags aQ_Held_Packet_Seg_Window aQ_Held_Packet_Seg_Body aQ_Held_Size aQ_Held_Count aQ_Holding aQ_Dropped _).mono ?_); rintro e w' ⟨rfl, hx⟩; replace HS := HS.grow hx; clear hx)); (try go_simp); refine hK _ _ ?_ ?_; (focus (exact stw HS)); clear hK K)))
    | ((with_reducible ((show wpOne _ _ _ _ 7 2 _ _ _))); (first | (refine wpOne_skip rfl rfl ?_; (try go_simp)) | (refine wpOne_2 rfl rfl ?_; intro K hK; go_simp; (first | (go_at_call 32; (with_reducible refine (hasCompletionS_any _ _ aListD aMD aDomain aQ_Ring_Base aQ_Ring_Size aQ_Ring_Head aQ_Ring_Tail aQ_Device_Base aQ_Device_Size aQ_Device_Count aQ_Driver_Base aQ_Driver_Size aQ_Driver_Count aQ_Held_Packet_DstMac aQ_Held_Packet_SrcMac aQ_Held_Packet_Vlan aQ_Held_Packet_Tos aQ_Held_Packet_Id aQ_Held_Packet_Ttl aQ_Held_Packet_SrcIp aQ_Held_Packet_DstIp aQ_Held_Packet_Seg_Kind aQ_Held_Packet_Seg_SrcPort aQ_Held_Packet_Seg_DstPort aQ_Held_Packet_Seg_Seq aQ_Held_Packet_Seg_Ack aQ_Held_Packet_Seg_Flags aQ_Held_Packet_Seg_Window aQ_Held_Packet_Seg_Body aQ_Held_Size aQ_Held_Count aQ_Holding aQ_Dropped HBD.out _ (HS.holds tk) (HS.holds tk) haDomain).mono ?_); rintro e w' ⟨rfl, hx⟩; rw [HV.out]; replace HS := HS.grow hx; clear hx)); (try go_simp); refine hK _ _ ?_; clear hK K)))
    | ((with_reducible ((show wpOne _ _ _ _ 8 2 _ _ _))); (first | (refine wpOne_skip rfl rfl ?_; (try go_simp)) | (refine wpOne_2 rfl rfl ?_; intro K hK; go_simp; refine hK _ _ ?_; clear hK K)))
    | (with_reducible refine wpPlan_done ?_))
  go_wp2_with (first
        | (go_at_call 19; (with_reducible refine (toMappingS_any _ aListD _ (k1.ex HS.ex) (by omega)).mono ?_); rintro e w' ⟨A38, c38, rfl, ho, hx⟩; replace HS := HS.own ho hx; clear ho hx)
        | (go_at_call 20; (with_reducible refine (toMemory_any _ aMD _ (k2.ex HS.ex) (by omega)).mono ?_); rintro e w' ⟨A40, c40, rfl, ho, hx⟩; replace HS := HS.own ho hx; clear ho hx)
        | ((with_reducible (show wpList _ _ _ (Oper.mk (some 5) (Op.box _ _) _ _ _ _ :: _) _ _)); refine wpList_box_st (o := ⟨some 5, .box _ _, _, _, _, _⟩) rfl _ _ rfl (v := .agg (List.toArray _)) rfl HS ?_; clear HS; intro w5 b5 hb5 HS; simp only [Value.cells] at HS)
        | ((with_reducible (show wpList _ _ _ (Oper.mk (some 5) (Op.box _ _) _ _ _ _ :: _) _ _)); refine wpList_box_st (o := ⟨some 5, .box _ _, _, _, _, _⟩) rfl _ _ rfl (v := .agg _) rfl HS ?_; clear HS; intro w5 b5 hb5 HS; simp only [Value.cells] at HS)
        | ((with_reducible (show wpList _ _ _ (Oper.mk (some 7) (Op.box _ _) _ _ _ _ :: _) _ _)); refine wpList_box_st (o := ⟨some 7, .box _ _, _, _, _, _⟩) rfl _ _ rfl (v := .agg (List.toArray _)) rfl HS ?_; clear HS; intro w7 b7 hb7 HS; simp only [Value.cells] at HS)
        | ((with_reducible (show wpList _ _ _ (Oper.mk (some 7) (Op.box _ _) _ _ _ _ :: _) _ _)); refine wpList_box_st (o := ⟨some 7, .box _ _, _, _, _, _⟩) rfl _ _ rfl (v := .agg _) rfl HS ?_; clear HS; intro w7 b7 hb7 HS; simp only [Value.cells] at HS)
        | ((with_reducible (show wpList _ _ _ (Oper.mk (some 19) (Op.load _ _) _ _ _ _ :: _) _ _)); refine wpList_loadA_st (o := ⟨some 19, .load _ _, _, _, _, _⟩) rfl _ _ rfl rfl HS tk ag_laws_Memory lit rfl ?_)
        | ((with_reducible (show wpList _ _ _ (Oper.mk (some 24) (Op.load _ _) _ _ _ _ :: _) _ _)); refine wpList_loadA_st (o := ⟨some 24, .load _ _, _, _, _, _⟩) rfl _ _ rfl rfl HS tk ag_laws_RxQueue lit rfl ?_)
        | ((with_reducible (show wpList _ _ _ (Oper.mk (some 39) (Op.load _ _) _ _ _ _ :: _) _ _)); refine wpList_loadA_st (o := ⟨some 39, .load _ _, _, _, _, _⟩) rfl _ _ rfl rfl HS tk ag_laws_Memory lit rfl ?_)
        | ((with_reducible (show wpList _ _ _ (Oper.mk (some 12) (Op.alloc _) _ _ _ _ :: _) _ _)); refine wpList_alloc_st (o := ⟨some 12, .alloc _, _, _, _, _⟩) rfl _ rfl zc_impl_Memory HS ?_; clear HS; intro w12 b12 hb12 HS)
        | ((with_reducible (show wpList _ _ _ (Oper.mk none (Op.store _ (.tmp 12) _) _ _ _ _ :: _) _ _)); refine wpList_store_st (o := ⟨none, .store _ (.tmp 12) _, _, _, _, _⟩) rfl _ _ _ rfl rfl (v := .agg (List.toArray _)) rfl HS tk sz_impl_Memory vcs rfx rfx (by simp) ?_ rfl; clear HS; intro w13_3 hz13_3 HS; simp only [nicL, Value.cells, List.append_nil] at HS)
        | ((with_reducible (show wpList _ _ _ (Oper.mk none (Op.store _ (.tmp 12) _) _ _ _ _ :: _) _ _)); refine wpList_store_st (o := ⟨none, .store _ (.tmp 12) _, _, _, _, _⟩) rfl _ _ _ rfl rfl (v := .agg _) rfl HS tk sz_impl_Memory vcs rfx rfx (by simp) ?_ rfl; clear HS; intro w13_3 hz13_3 HS; simp only [nicL, Value.cells, List.append_nil] at HS))
  refine wp_region_plan_st HS (.early 0 (.early 1 (.early 2 (.forced 3 1 (.forced 4 1 (.forced 5 2 (.forced 6 2 .done))))))) (by kernel_rfl) (by as_aux_lemma => kernel_rfl) ?_
  intro hne
  replace HS := HS.drew
  try go_simp
  repeat' (first
    | (with_reducible refine wpPlan_forced ?_)
    | ((with_reducible (first | (show wpPlan _ _ _ _ (.early 0 _) _ _) | (show wpPlan _ _ _ _ (.early 2 _) _ _))); (first | (refine wpPlan_skipE rfl rfl ?_; (try go_simp)) | (refine wpPlan_early rfl rfl ?_; intro K hK; (first | go_big_quiet_op); (first | go_big_quiet_on | (refine ⟨_, fun _ => rfl, ?_⟩; go_big_quiet_on)))))
    | ((with_reducible ((show wpPlan _ _ _ _ (.early 1 _) _ _))); (first | (refine wpPlan_skipE rfl rfl ?_; (try go_simp)) | (refine wpPlan_early rfl rfl ?_; intro K hK; (first | ((refine quiet_loadA_st  _ _ rfl rfl tk ag_impl_Memory lit rfl ?_); (try go_simp)) | go_big_quiet_op); (first | go_big_quiet_on | (refine ⟨_, fun _ => rfl, ?_⟩; go_big_quiet_on)))))
    | ((with_reducible ((show wpOne _ _ _ _ 3 1 _ _ _))); (first | (refine wpOne_skip rfl rfl ?_; (try go_simp)) | (refine wpOne_1 rfl rfl ?_; intro K hK; (first | (refine wp_loadA_st  _ _ rfl rfl HS tk ag_laws_RxQueue lit rfl ?_)); (try go_simp); refine hK _ _ ?_ ?_; (focus (exact stw HS)); clear hK K)))
    | ((with_reducible ((show wpOne _ _ _ _ 4 1 _ _ _))); (first | (refine wpOne_skip rfl rfl ?_; (try go_simp)) | (refine wpOne_1 rfl rfl ?_; intro K hK; go_simp; (first | (go_at_call 33; (with_reducible refine (toRxQueue_r aQ_Ring_Base aQ_Ring_Size aQ_Ring_Head aQ_Ring_Tail aQ_Device_Base aQ_Device_Size aQ_Device_Count aQ_Driver_Base aQ_Driver_Size aQ_Driver_Count aQ_Held_Packet_DstMac aQ_Held_Packet_SrcMac aQ_Held_Packet_Vlan aQ_Held_Packet_Tos aQ_Held_Packet_Id aQ_Held_Packet_Ttl aQ_Held_Packet_SrcIp aQ_Held_Packet_DstIp aQ_Held_Packet_Seg_Kind aQ_Held_Packet_Seg_SrcPort aQ_Held_Packet_Seg_DstPort aQ_Held_Packet_Seg_Seq aQ_Held_Packet_Seg_Ack aQ_Held_Packet_Seg_Flags aQ_Held_Packet_Seg_Window aQ_Held_Packet_Seg_Body aQ_Held_Size aQ_Held_Count aQ_Holding aQ_Dropped _).mono ?_); rintro e w' ⟨rfl, hx⟩; replace HS := HS.grow hx; clear hx)); (try go_simp); refine hK _ _ ?_ ?_; (focus (exact stw HS)); clear hK K)))
    | ((with_reducible ((show wpOne _ _ _ _ 5 2 _ _ _))); (first | (refine wpOne_skip rfl rfl ?_; (try go_simp)) | (refine wpOne_2 rfl rfl ?_; intro K hK; go_simp; (first | (go_at_call 34; (with_reducible refine (hasCompletion_any _ _ aListD aMD aDomain aQ_Ring_Base aQ_Ring_Size aQ_Ring_Head aQ_Ring_Tail aQ_Device_Base aQ_Device_Size aQ_Device_Count aQ_Driver_Base aQ_Driver_Size aQ_Driver_Count aQ_Held_Packet_DstMac aQ_Held_Packet_SrcMac aQ_Held_Packet_Vlan aQ_Held_Packet_Tos aQ_Held_Packet_Id aQ_Held_Packet_Ttl aQ_Held_Packet_SrcIp aQ_Held_Packet_DstIp aQ_Held_Packet_Seg_Kind aQ_Held_Packet_Seg_SrcPort aQ_Held_Packet_Seg_DstPort aQ_Held_Packet_Seg_Seq aQ_Held_Packet_Seg_Ack aQ_Held_Packet_Seg_Flags aQ_Held_Packet_Seg_Window aQ_Held_Packet_Seg_Body aQ_Held_Size aQ_Held_Count aQ_Holding aQ_Dropped HBD.out _ (HS.holds tk) (HS.holds tk) haDomain).mono ?_); rintro e w' ⟨rfl, hx⟩; rw [HV.out]; replace HS := HS.grow hx; clear hx)); (try go_simp); refine hK _ _ ?_; clear hK K)))
    | ((with_reducible ((show wpOne _ _ _ _ 6 2 _ _ _))); (first | (refine wpOne_skip rfl rfl ?_; (try go_simp)) | (refine wpOne_2 rfl rfl ?_; intro K hK; go_simp; refine hK _ _ ?_; clear hK K)))
    | (with_reducible refine wpPlan_done ?_))
  go_wp2_with (first
        | (go_at_call 19; (with_reducible refine (toMappingS_any _ aListD _ (k1.ex HS.ex) (by omega)).mono ?_); rintro e w' ⟨A52, c52, rfl, ho, hx⟩; replace HS := HS.own ho hx; clear ho hx)
        | (go_at_call 24; (with_reducible refine (eqMappingS_same _ _ aListD _ (HS.holds tk) (HS.holds tk)).mono ?_); rintro e w' ⟨rfl, hx⟩; replace HS := HS.grow hx; clear hx)
        | ((with_reducible (show wpList _ _ _ (Oper.mk (some 5) (Op.box _ _) _ _ _ _ :: _) _ _)); refine wpList_box_st (o := ⟨some 5, .box _ _, _, _, _, _⟩) rfl _ _ rfl (v := .agg (List.toArray _)) rfl HS ?_; clear HS; intro w5 b5 hb5 HS; simp only [Value.cells] at HS)
        | ((with_reducible (show wpList _ _ _ (Oper.mk (some 5) (Op.box _ _) _ _ _ _ :: _) _ _)); refine wpList_box_st (o := ⟨some 5, .box _ _, _, _, _, _⟩) rfl _ _ rfl (v := .agg _) rfl HS ?_; clear HS; intro w5 b5 hb5 HS; simp only [Value.cells] at HS)
        | ((with_reducible (show wpList _ _ _ (Oper.mk (some 7) (Op.box _ _) _ _ _ _ :: _) _ _)); refine wpList_box_st (o := ⟨some 7, .box _ _, _, _, _, _⟩) rfl _ _ rfl (v := .agg (List.toArray _)) rfl HS ?_; clear HS; intro w7 b7 hb7 HS; simp only [Value.cells] at HS)
        | ((with_reducible (show wpList _ _ _ (Oper.mk (some 7) (Op.box _ _) _ _ _ _ :: _) _ _)); refine wpList_box_st (o := ⟨some 7, .box _ _, _, _, _, _⟩) rfl _ _ rfl (v := .agg _) rfl HS ?_; clear HS; intro w7 b7 hb7 HS; simp only [Value.cells] at HS)
        | ((with_reducible (show wpList _ _ _ (Oper.mk (some 19) (Op.load _ _) _ _ _ _ :: _) _ _)); refine wpList_loadA_st (o := ⟨some 19, .load _ _, _, _, _, _⟩) rfl _ _ rfl rfl HS tk ag_laws_Memory lit rfl ?_)
        | ((with_reducible (show wpList _ _ _ (Oper.mk (some 24) (Op.load _ _) _ _ _ _ :: _) _ _)); refine wpList_loadA_st (o := ⟨some 24, .load _ _, _, _, _, _⟩) rfl _ _ rfl rfl HS tk ag_laws_RxQueue lit rfl ?_)
        | ((with_reducible (show wpList _ _ _ (Oper.mk (some 39) (Op.load _ _) _ _ _ _ :: _) _ _)); refine wpList_loadA_st (o := ⟨some 39, .load _ _, _, _, _, _⟩) rfl _ _ rfl rfl HS tk ag_laws_Memory lit rfl ?_)
        | ((with_reducible (show wpList _ _ _ (Oper.mk (some 12) (Op.alloc _) _ _ _ _ :: _) _ _)); refine wpList_alloc_st (o := ⟨some 12, .alloc _, _, _, _, _⟩) rfl _ rfl zc_impl_Memory HS ?_; clear HS; intro w12 b12 hb12 HS)
        | ((with_reducible (show wpList _ _ _ (Oper.mk none (Op.store _ (.tmp 12) _) _ _ _ _ :: _) _ _)); refine wpList_store_st (o := ⟨none, .store _ (.tmp 12) _, _, _, _, _⟩) rfl _ _ _ rfl rfl (v := .agg (List.toArray _)) rfl HS tk sz_impl_Memory vcs rfx rfx (by simp) ?_ rfl; clear HS; intro w13_3 hz13_3 HS; simp only [nicL, Value.cells, List.append_nil] at HS)
        | ((with_reducible (show wpList _ _ _ (Oper.mk none (Op.store _ (.tmp 12) _) _ _ _ _ :: _) _ _)); refine wpList_store_st (o := ⟨none, .store _ (.tmp 12) _, _, _, _, _⟩) rfl _ _ _ rfl rfl (v := .agg _) rfl HS tk sz_impl_Memory vcs rfx rfx (by simp) ?_ rfl; clear HS; intro w13_3 hz13_3 HS; simp only [nicL, Value.cells, List.append_nil] at HS))
  refine wp_region_plan_st HS (.early 0 (.forced 1 1 (.forced 2 1 (.forced 3 2 (.forced 4 2 .done))))) (by kernel_rfl) (by as_aux_lemma => kernel_rfl) ?_
  intro hne
  replace HS := HS.drew
  try go_simp
  repeat' (first
    | (with_reducible refine wpPlan_forced ?_)
    | ((with_reducible ((show wpPlan _ _ _ _ (.early 0 _) _ _))); (first | (refine wpPlan_skipE rfl rfl ?_; (try go_simp)) | (refine wpPlan_early rfl rfl ?_; intro K hK; (first | ((refine quiet_loadA_st  _ _ rfl rfl tk ag_impl_Memory lit rfl ?_); (try go_simp)) | go_big_quiet_op); (first | go_big_quiet_on | (refine ⟨_, fun _ => rfl, ?_⟩; go_big_quiet_on)))))
    | ((with_reducible ((show wpOne _ _ _ _ 1 1 _ _ _))); (first | (refine wpOne_skip rfl rfl ?_; (try go_simp)) | (refine wpOne_1 rfl rfl ?_; intro K hK; (first | (refine wp_loadA_st  _ _ rfl rfl HS tk ag_laws_Memory lit rfl ?_)); (try go_simp); refine hK _ _ ?_ ?_; (focus (exact stw HS)); clear hK K)))
    | ((with_reducible ((show wpOne _ _ _ _ 2 1 _ _ _))); (first | (refine wpOne_skip rfl rfl ?_; (try go_simp)) | (refine wpOne_1 rfl rfl ?_; intro K hK; go_simp; (first | (go_at_call 20; (with_reducible refine (toMemory_any _ aMD _ (k2.ex HS.ex) (by omega)).mono ?_); rintro e w' ⟨A57, c57, rfl, ho, hx⟩; replace HS := HS.own ho hx; clear ho hx)); (try go_simp); refine hK _ _ ?_ ?_; (focus (exact stw HS)); clear hK K)))
    | ((with_reducible ((show wpOne _ _ _ _ 3 2 _ _ _))); (first | (refine wpOne_skip rfl rfl ?_; (try go_simp)) | (refine wpOne_2 rfl rfl ?_; intro K hK; go_simp; (first | (go_at_call 25; (with_reducible refine (eqMemory_same _ _ _ _ (HS.holds tk) (HS.holds tk)).mono ?_); rintro e w' ⟨rfl, hx⟩; replace HS := HS.grow hx; clear hx)); (try go_simp); refine hK _ _ ?_; clear hK K)))
    | ((with_reducible ((show wpOne _ _ _ _ 4 2 _ _ _))); (first | (refine wpOne_skip rfl rfl ?_; (try go_simp)) | (refine wpOne_2 rfl rfl ?_; intro K hK; go_simp; refine hK _ _ ?_; clear hK K)))
    | (with_reducible refine wpPlan_done ?_))
  go_wp2_with (first
        | (go_at_call 25; (with_reducible refine (eqMemory_same _ _ _ _ (HS.holds tk) (HS.holds tk)).mono ?_); rintro e w' ⟨rfl, hx⟩; replace HS := HS.grow hx; clear hx)
        | ((with_reducible (show wpList _ _ _ (Oper.mk (some 5) (Op.box _ _) _ _ _ _ :: _) _ _)); refine wpList_box_st (o := ⟨some 5, .box _ _, _, _, _, _⟩) rfl _ _ rfl (v := .agg (List.toArray _)) rfl HS ?_; clear HS; intro w5 b5 hb5 HS; simp only [Value.cells] at HS)
        | ((with_reducible (show wpList _ _ _ (Oper.mk (some 5) (Op.box _ _) _ _ _ _ :: _) _ _)); refine wpList_box_st (o := ⟨some 5, .box _ _, _, _, _, _⟩) rfl _ _ rfl (v := .agg _) rfl HS ?_; clear HS; intro w5 b5 hb5 HS; simp only [Value.cells] at HS)
        | ((with_reducible (show wpList _ _ _ (Oper.mk (some 7) (Op.box _ _) _ _ _ _ :: _) _ _)); refine wpList_box_st (o := ⟨some 7, .box _ _, _, _, _, _⟩) rfl _ _ rfl (v := .agg (List.toArray _)) rfl HS ?_; clear HS; intro w7 b7 hb7 HS; simp only [Value.cells] at HS)
        | ((with_reducible (show wpList _ _ _ (Oper.mk (some 7) (Op.box _ _) _ _ _ _ :: _) _ _)); refine wpList_box_st (o := ⟨some 7, .box _ _, _, _, _, _⟩) rfl _ _ rfl (v := .agg _) rfl HS ?_; clear HS; intro w7 b7 hb7 HS; simp only [Value.cells] at HS)
        | ((with_reducible (show wpList _ _ _ (Oper.mk (some 19) (Op.load _ _) _ _ _ _ :: _) _ _)); refine wpList_loadA_st (o := ⟨some 19, .load _ _, _, _, _, _⟩) rfl _ _ rfl rfl HS tk ag_laws_Memory lit rfl ?_)
        | ((with_reducible (show wpList _ _ _ (Oper.mk (some 24) (Op.load _ _) _ _ _ _ :: _) _ _)); refine wpList_loadA_st (o := ⟨some 24, .load _ _, _, _, _, _⟩) rfl _ _ rfl rfl HS tk ag_laws_RxQueue lit rfl ?_)
        | ((with_reducible (show wpList _ _ _ (Oper.mk (some 39) (Op.load _ _) _ _ _ _ :: _) _ _)); refine wpList_loadA_st (o := ⟨some 39, .load _ _, _, _, _, _⟩) rfl _ _ rfl rfl HS tk ag_laws_Memory lit rfl ?_)
        | ((with_reducible (show wpList _ _ _ (Oper.mk (some 12) (Op.alloc _) _ _ _ _ :: _) _ _)); refine wpList_alloc_st (o := ⟨some 12, .alloc _, _, _, _, _⟩) rfl _ rfl zc_impl_Memory HS ?_; clear HS; intro w12 b12 hb12 HS)
        | ((with_reducible (show wpList _ _ _ (Oper.mk none (Op.store _ (.tmp 12) _) _ _ _ _ :: _) _ _)); refine wpList_store_st (o := ⟨none, .store _ (.tmp 12) _, _, _, _, _⟩) rfl _ _ _ rfl rfl (v := .agg (List.toArray _)) rfl HS tk sz_impl_Memory vcs rfx rfx (by simp) ?_ rfl; clear HS; intro w13_3 hz13_3 HS; simp only [nicL, Value.cells, List.append_nil] at HS)
        | ((with_reducible (show wpList _ _ _ (Oper.mk none (Op.store _ (.tmp 12) _) _ _ _ _ :: _) _ _)); refine wpList_store_st (o := ⟨none, .store _ (.tmp 12) _, _, _, _, _⟩) rfl _ _ _ rfl rfl (v := .agg _) rfl HS tk sz_impl_Memory vcs rfx rfx (by simp) ?_ rfl; clear HS; intro w13_3 hz13_3 HS; simp only [nicL, Value.cells, List.append_nil] at HS))
  go_ret
  exact ⟨rfl, HS.ex⟩

end Go.Proofs.Ytelkplponnfkpaa
