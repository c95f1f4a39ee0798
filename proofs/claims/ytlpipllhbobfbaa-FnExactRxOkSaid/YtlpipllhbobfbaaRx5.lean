/- The walk of FnExactRxOk. -/
import Derived.Test.YtlpipllhbobfbaaRows
import Derived.Test.YtlpipllhbobfbaaRx4
import Derived.Test.YtlpipllhbobfbaaRx4b
import Derived.Test.YtlpipllhbobfbaaTo
namespace Go.Proofs.Ytlpipllhbobfbaa
open Go.RowKit
set_option linter.unusedVariables false
set_option linter.unusedSimpArgs false

set_option maxRecDepth 100000 in
set_option maxHeartbeats 1000000 in
theorem szSegment_le (x_Kind : Int) (x_SrcPort : Int) (x_DstPort : Int) (x_Seq : Int) (x_Ack : Int) (x_Flags : Int) (x_Window : Int) (x_Body : ByteArray) (l : Int) (hb : x_Body.size ≤ maxLen) (hl : l ≤ 1048576) (h : (x_Body.size : Int) ≤ l) (w : World) :
    Calls Try.prog 79 #[.agg #[.int .i64 x_Kind, .int .i64 x_SrcPort, .int .i64 x_DstPort, .int .i64 x_Seq, .int .i64 x_Ack, .int .i64 x_Flags, .int .i64 x_Window, .string x_Body], .int .i64 l] w fun e w' => e = .returned (.int .i64 (l - x_Body.size)) ∧ Ex w w' := by
  have hb' := hb
  unfold maxLen at hb'
  have HS := St.start w
  go_enter Try.func79, Try.ntmps79
  go_wp2_with (first
      | (refine wpList_box_st (o := ⟨some 2, .box _ _, _, _, _, _⟩) rfl _ _ rfl (v := .agg (List.toArray _)) rfl HS ?_; clear HS; intro w2 b2 hb2 HS; simp only [Value.cells] at HS)
      | (refine wpList_box_st (o := ⟨some 2, .box _ _, _, _, _, _⟩) rfl _ _ rfl (v := .agg _) rfl HS ?_; clear HS; intro w2 b2 hb2 HS; simp only [Value.cells] at HS)
      | (refine wpList_loadS_st (o := ⟨some 7, .load _ _, _, _, _, _⟩) rfl _ _ rfl rfl HS (by repeat (first | exact Take.head | apply Take.tail)) sc_string (by rfl) ?_))
  go_ret
  exact ⟨rfl, HS.ex⟩

set_option maxRecDepth 100000 in
set_option maxHeartbeats 1000000 in
theorem szSegment_gt (x_Kind : Int) (x_SrcPort : Int) (x_DstPort : Int) (x_Seq : Int) (x_Ack : Int) (x_Flags : Int) (x_Window : Int) (x_Body : ByteArray) (l : Int) (hb : x_Body.size ≤ maxLen) (h0 : 0 ≤ l) (hl : l ≤ 1048576) (h : l < (x_Body.size : Int)) (w : World) :
    Calls Try.prog 79 #[.agg #[.int .i64 x_Kind, .int .i64 x_SrcPort, .int .i64 x_DstPort, .int .i64 x_Seq, .int .i64 x_Ack, .int .i64 x_Flags, .int .i64 x_Window, .string x_Body], .int .i64 l] w fun e w' => e = .returned (.int .i64 (-1)) ∧ Ex w w' := by
  have hb' := hb
  unfold maxLen at hb'
  have HS := St.start w
  go_enter Try.func79, Try.ntmps79
  go_wp2_with (first
      | (refine wpList_box_st (o := ⟨some 2, .box _ _, _, _, _, _⟩) rfl _ _ rfl (v := .agg (List.toArray _)) rfl HS ?_; clear HS; intro w2 b2 hb2 HS; simp only [Value.cells] at HS)
      | (refine wpList_box_st (o := ⟨some 2, .box _ _, _, _, _, _⟩) rfl _ _ rfl (v := .agg _) rfl HS ?_; clear HS; intro w2 b2 hb2 HS; simp only [Value.cells] at HS)
      | (refine wpList_loadS_st (o := ⟨some 7, .load _ _, _, _, _, _⟩) rfl _ _ rfl rfl HS (by repeat (first | exact Take.head | apply Take.tail)) sc_string (by rfl) ?_))
  go_ret
  exact ⟨rfl, HS.ex⟩

set_option maxRecDepth 100000 in
set_option maxHeartbeats 1000000 in
theorem szPacket_le (x_DstMac : Int) (x_SrcMac : Int) (x_Vlan : Int) (x_Tos : Int) (x_Id : Int) (x_Ttl : Int) (x_SrcIp : Int) (x_DstIp : Int) (x_Seg_Kind : Int) (x_Seg_SrcPort : Int) (x_Seg_DstPort : Int) (x_Seg_Seq : Int) (x_Seg_Ack : Int) (x_Seg_Flags : Int) (x_Seg_Window : Int) (x_Seg_Body : ByteArray) (l : Int) (hb : x_Seg_Body.size ≤ maxLen) (hl : l ≤ 1048576) (h : (x_Seg_Body.size : Int) ≤ l) (w : World) :
    Calls Try.prog 35 #[.agg #[.int .i64 x_DstMac, .int .i64 x_SrcMac, .int .i64 x_Vlan, .int .i64 x_Tos, .int .i64 x_Id, .int .i64 x_Ttl, .int .i64 x_SrcIp, .int .i64 x_DstIp, .int .i64 x_Seg_Kind, .int .i64 x_Seg_SrcPort, .int .i64 x_Seg_DstPort, .int .i64 x_Seg_Seq, .int .i64 x_Seg_Ack, .int .i64 x_Seg_Flags, .int .i64 x_Seg_Window, .string x_Seg_Body], .int .i64 l] w fun e w' => e = .returned (.int .i64 (l - x_Seg_Body.size)) ∧ Ex w w' := by
  have hb' := hb
  unfold maxLen at hb'
  have HS := St.start w
  go_enter Try.func35, Try.ntmps35
  go_wp2_with (first
      | (go_at_call 79; (with_reducible refine (szSegment_le _ _ _ _ _ _ _ _ _ hb hl h _).mono ?_); rintro e w' ⟨rfl, hx⟩; replace HS := HS.grow hx; clear hx)
      | (refine wpList_box_st (o := ⟨some 2, .box _ _, _, _, _, _⟩) rfl _ _ rfl (v := .agg (List.toArray _)) rfl HS ?_; clear HS; intro w2 b2 hb2 HS; simp only [Value.cells] at HS)
      | (refine wpList_box_st (o := ⟨some 2, .box _ _, _, _, _, _⟩) rfl _ _ rfl (v := .agg _) rfl HS ?_; clear HS; intro w2 b2 hb2 HS; simp only [Value.cells] at HS)
      | (refine wpList_loadA_st (o := ⟨some 6, .load _ _, _, _, _, _⟩) rfl _ _ rfl rfl HS (by repeat (first | exact Take.head | apply Take.tail)) ag_laws_Segment (by simp only [List.drop_succ_cons, List.drop_zero, List.take_succ_cons, List.take_zero, List.take_nil]; rfl) rfl ?_))
  go_ret
  exact ⟨rfl, HS.ex⟩

set_option maxRecDepth 100000 in
set_option maxHeartbeats 1000000 in
theorem szPacket_gt (x_DstMac : Int) (x_SrcMac : Int) (x_Vlan : Int) (x_Tos : Int) (x_Id : Int) (x_Ttl : Int) (x_SrcIp : Int) (x_DstIp : Int) (x_Seg_Kind : Int) (x_Seg_SrcPort : Int) (x_Seg_DstPort : Int) (x_Seg_Seq : Int) (x_Seg_Ack : Int) (x_Seg_Flags : Int) (x_Seg_Window : Int) (x_Seg_Body : ByteArray) (l : Int) (hb : x_Seg_Body.size ≤ maxLen) (h0 : 0 ≤ l) (hl : l ≤ 1048576) (h : l < (x_Seg_Body.size : Int)) (w : World) :
    Calls Try.prog 35 #[.agg #[.int .i64 x_DstMac, .int .i64 x_SrcMac, .int .i64 x_Vlan, .int .i64 x_Tos, .int .i64 x_Id, .int .i64 x_Ttl, .int .i64 x_SrcIp, .int .i64 x_DstIp, .int .i64 x_Seg_Kind, .int .i64 x_Seg_SrcPort, .int .i64 x_Seg_DstPort, .int .i64 x_Seg_Seq, .int .i64 x_Seg_Ack, .int .i64 x_Seg_Flags, .int .i64 x_Seg_Window, .string x_Seg_Body], .int .i64 l] w fun e w' => e = .returned (.int .i64 (-1)) ∧ Ex w w' := by
  have hb' := hb
  unfold maxLen at hb'
  have HS := St.start w
  go_enter Try.func35, Try.ntmps35
  go_wp2_with (first
      | (go_at_call 79; (with_reducible refine (szSegment_gt _ _ _ _ _ _ _ _ _ hb h0 hl h _).mono ?_); rintro e w' ⟨rfl, hx⟩; replace HS := HS.grow hx; clear hx)
      | (refine wpList_box_st (o := ⟨some 2, .box _ _, _, _, _, _⟩) rfl _ _ rfl (v := .agg (List.toArray _)) rfl HS ?_; clear HS; intro w2 b2 hb2 HS; simp only [Value.cells] at HS)
      | (refine wpList_box_st (o := ⟨some 2, .box _ _, _, _, _, _⟩) rfl _ _ rfl (v := .agg _) rfl HS ?_; clear HS; intro w2 b2 hb2 HS; simp only [Value.cells] at HS)
      | (refine wpList_loadA_st (o := ⟨some 6, .load _ _, _, _, _, _⟩) rfl _ _ rfl rfl HS (by repeat (first | exact Take.head | apply Take.tail)) ag_laws_Segment (by simp only [List.drop_succ_cons, List.drop_zero, List.take_succ_cons, List.take_zero, List.take_nil]; rfl) rfl ?_))
  go_ret
  exact ⟨rfl, HS.ex⟩

set_option maxRecDepth 100000 in
set_option maxHeartbeats 1000000 in
theorem szSuper_le (x_Packet_DstMac : Int) (x_Packet_SrcMac : Int) (x_Packet_Vlan : Int) (x_Packet_Tos : Int) (x_Packet_Id : Int) (x_Packet_Ttl : Int) (x_Packet_SrcIp : Int) (x_Packet_DstIp : Int) (x_Packet_Seg_Kind : Int) (x_Packet_Seg_SrcPort : Int) (x_Packet_Seg_DstPort : Int) (x_Packet_Seg_Seq : Int) (x_Packet_Seg_Ack : Int) (x_Packet_Seg_Flags : Int) (x_Packet_Seg_Window : Int) (x_Packet_Seg_Body : ByteArray) (x_Size : Int) (x_Count : Int) (l : Int) (hb : x_Packet_Seg_Body.size ≤ maxLen) (hl : l ≤ 1048576) (h : (x_Packet_Seg_Body.size : Int) ≤ l) (w : World) :
    Calls Try.prog 95 #[.agg #[.int .i64 x_Packet_DstMac, .int .i64 x_Packet_SrcMac, .int .i64 x_Packet_Vlan, .int .i64 x_Packet_Tos, .int .i64 x_Packet_Id, .int .i64 x_Packet_Ttl, .int .i64 x_Packet_SrcIp, .int .i64 x_Packet_DstIp, .int .i64 x_Packet_Seg_Kind, .int .i64 x_Packet_Seg_SrcPort, .int .i64 x_Packet_Seg_DstPort, .int .i64 x_Packet_Seg_Seq, .int .i64 x_Packet_Seg_Ack, .int .i64 x_Packet_Seg_Flags, .int .i64 x_Packet_Seg_Window, .string x_Packet_Seg_Body, .int .i64 x_Size, .int .i64 x_Count], .int .i64 l] w fun e w' => e = .returned (.int .i64 (l - x_Packet_Seg_Body.size)) ∧ Ex w w' := by
  have hb' := hb
  unfold maxLen at hb'
  have HS := St.start w
  go_enter Try.func95, Try.ntmps95
  go_wp2_with (first
      | (go_at_call 35; (with_reducible refine (szPacket_le _ _ _ _ _ _ _ _ _ _ _ _ _ _ _ _ _ hb hl h _).mono ?_); rintro e w' ⟨rfl, hx⟩; replace HS := HS.grow hx; clear hx)
      | (refine wpList_box_st (o := ⟨some 2, .box _ _, _, _, _, _⟩) rfl _ _ rfl (v := .agg (List.toArray _)) rfl HS ?_; clear HS; intro w2 b2 hb2 HS; simp only [Value.cells] at HS)
      | (refine wpList_box_st (o := ⟨some 2, .box _ _, _, _, _, _⟩) rfl _ _ rfl (v := .agg _) rfl HS ?_; clear HS; intro w2 b2 hb2 HS; simp only [Value.cells] at HS)
      | (refine wpList_loadA_st (o := ⟨some 6, .load _ _, _, _, _, _⟩) rfl _ _ rfl rfl HS (by repeat (first | exact Take.head | apply Take.tail)) ag_laws_Packet (by simp only [List.drop_succ_cons, List.drop_zero, List.take_succ_cons, List.take_zero, List.take_nil]; rfl) rfl ?_))
  go_ret
  exact ⟨rfl, HS.ex⟩

set_option maxRecDepth 100000 in
set_option maxHeartbeats 1000000 in
theorem szSuper_gt (x_Packet_DstMac : Int) (x_Packet_SrcMac : Int) (x_Packet_Vlan : Int) (x_Packet_Tos : Int) (x_Packet_Id : Int) (x_Packet_Ttl : Int) (x_Packet_SrcIp : Int) (x_Packet_DstIp : Int) (x_Packet_Seg_Kind : Int) (x_Packet_Seg_SrcPort : Int) (x_Packet_Seg_DstPort : Int) (x_Packet_Seg_Seq : Int) (x_Packet_Seg_Ack : Int) (x_Packet_Seg_Flags : Int) (x_Packet_Seg_Window : Int) (x_Packet_Seg_Body : ByteArray) (x_Size : Int) (x_Count : Int) (l : Int) (hb : x_Packet_Seg_Body.size ≤ maxLen) (h0 : 0 ≤ l) (hl : l ≤ 1048576) (h : l < (x_Packet_Seg_Body.size : Int)) (w : World) :
    Calls Try.prog 95 #[.agg #[.int .i64 x_Packet_DstMac, .int .i64 x_Packet_SrcMac, .int .i64 x_Packet_Vlan, .int .i64 x_Packet_Tos, .int .i64 x_Packet_Id, .int .i64 x_Packet_Ttl, .int .i64 x_Packet_SrcIp, .int .i64 x_Packet_DstIp, .int .i64 x_Packet_Seg_Kind, .int .i64 x_Packet_Seg_SrcPort, .int .i64 x_Packet_Seg_DstPort, .int .i64 x_Packet_Seg_Seq, .int .i64 x_Packet_Seg_Ack, .int .i64 x_Packet_Seg_Flags, .int .i64 x_Packet_Seg_Window, .string x_Packet_Seg_Body, .int .i64 x_Size, .int .i64 x_Count], .int .i64 l] w fun e w' => e = .returned (.int .i64 (-1)) ∧ Ex w w' := by
  have hb' := hb
  unfold maxLen at hb'
  have HS := St.start w
  go_enter Try.func95, Try.ntmps95
  go_wp2_with (first
      | (go_at_call 35; (with_reducible refine (szPacket_gt _ _ _ _ _ _ _ _ _ _ _ _ _ _ _ _ _ hb h0 hl h _).mono ?_); rintro e w' ⟨rfl, hx⟩; replace HS := HS.grow hx; clear hx)
      | (refine wpList_box_st (o := ⟨some 2, .box _ _, _, _, _, _⟩) rfl _ _ rfl (v := .agg (List.toArray _)) rfl HS ?_; clear HS; intro w2 b2 hb2 HS; simp only [Value.cells] at HS)
      | (refine wpList_box_st (o := ⟨some 2, .box _ _, _, _, _, _⟩) rfl _ _ rfl (v := .agg _) rfl HS ?_; clear HS; intro w2 b2 hb2 HS; simp only [Value.cells] at HS)
      | (refine wpList_loadA_st (o := ⟨some 6, .load _ _, _, _, _, _⟩) rfl _ _ rfl rfl HS (by repeat (first | exact Take.head | apply Take.tail)) ag_laws_Packet (by simp only [List.drop_succ_cons, List.drop_zero, List.take_succ_cons, List.take_zero, List.take_nil]; rfl) rfl ?_))
  go_ret
  exact ⟨rfl, HS.ex⟩

set_option maxRecDepth 100000 in
set_option maxHeartbeats 1000000 in
theorem szRxQueue_le (x_Ring_Base : Int) (x_Ring_Size : Int) (x_Ring_Head : Int) (x_Ring_Tail : Int) (x_Device_Base : Int) (x_Device_Size : Int) (x_Device_Count : Int) (x_Driver_Base : Int) (x_Driver_Size : Int) (x_Driver_Count : Int) (x_Held_Packet_DstMac : Int) (x_Held_Packet_SrcMac : Int) (x_Held_Packet_Vlan : Int) (x_Held_Packet_Tos : Int) (x_Held_Packet_Id : Int) (x_Held_Packet_Ttl : Int) (x_Held_Packet_SrcIp : Int) (x_Held_Packet_DstIp : Int) (x_Held_Packet_Seg_Kind : Int) (x_Held_Packet_Seg_SrcPort : Int) (x_Held_Packet_Seg_DstPort : Int) (x_Held_Packet_Seg_Seq : Int) (x_Held_Packet_Seg_Ack : Int) (x_Held_Packet_Seg_Flags : Int) (x_Held_Packet_Seg_Window : Int) (x_Held_Packet_Seg_Body : ByteArray) (x_Held_Size : Int) (x_Held_Count : Int) (x_Holding : Bool) (x_Dropped : Int) (l : Int) (hb : x_Held_Packet_Seg_Body.size ≤ maxLen) (hl : l ≤ 1048576) (h : (x_Held_Packet_Seg_Body.size : Int) ≤ l) (w : World) :
    Calls Try.prog 63 #[.agg #[.int .i64 x_Ring_Base, .int .i64 x_Ring_Size, .int .i64 x_Ring_Head, .int .i64 x_Ring_Tail, .int .i64 x_Device_Base, .int .i64 x_Device_Size, .int .i64 x_Device_Count, .int .i64 x_Driver_Base, .int .i64 x_Driver_Size, .int .i64 x_Driver_Count, .int .i64 x_Held_Packet_DstMac, .int .i64 x_Held_Packet_SrcMac, .int .i64 x_Held_Packet_Vlan, .int .i64 x_Held_Packet_Tos, .int .i64 x_Held_Packet_Id, .int .i64 x_Held_Packet_Ttl, .int .i64 x_Held_Packet_SrcIp, .int .i64 x_Held_Packet_DstIp, .int .i64 x_Held_Packet_Seg_Kind, .int .i64 x_Held_Packet_Seg_SrcPort, .int .i64 x_Held_Packet_Seg_DstPort, .int .i64 x_Held_Packet_Seg_Seq, .int .i64 x_Held_Packet_Seg_Ack, .int .i64 x_Held_Packet_Seg_Flags, .int .i64 x_Held_Packet_Seg_Window, .string x_Held_Packet_Seg_Body, .int .i64 x_Held_Size, .int .i64 x_Held_Count, .bool x_Holding, .int .i64 x_Dropped], .int .i64 l] w fun e w' => e = .returned (.int .i64 (l - x_Held_Packet_Seg_Body.size)) ∧ Ex w w' := by
  have hb' := hb
  unfold maxLen at hb'
  have HS := St.start w
  go_enter Try.func63, Try.ntmps63
  go_wp2_with (first
      | (go_at_call 95; (with_reducible refine (szSuper_le _ _ _ _ _ _ _ _ _ _ _ _ _ _ _ _ _ _ _ hb hl h _).mono ?_); rintro e w' ⟨rfl, hx⟩; replace HS := HS.grow hx; clear hx)
      | (refine wpList_box_st (o := ⟨some 2, .box _ _, _, _, _, _⟩) rfl _ _ rfl (v := .agg (List.toArray _)) rfl HS ?_; clear HS; intro w2 b2 hb2 HS; simp only [Value.cells] at HS)
      | (refine wpList_box_st (o := ⟨some 2, .box _ _, _, _, _, _⟩) rfl _ _ rfl (v := .agg _) rfl HS ?_; clear HS; intro w2 b2 hb2 HS; simp only [Value.cells] at HS)
      | (refine wpList_loadA_st (o := ⟨some 6, .load _ _, _, _, _, _⟩) rfl _ _ rfl rfl HS (by repeat (first | exact Take.head | apply Take.tail)) ag_laws_Super (by simp only [List.drop_succ_cons, List.drop_zero, List.take_succ_cons, List.take_zero, List.take_nil]; rfl) rfl ?_))
  go_ret
  exact ⟨rfl, HS.ex⟩

set_option maxRecDepth 100000 in
set_option maxHeartbeats 1000000 in
theorem szRxQueue_gt (x_Ring_Base : Int) (x_Ring_Size : Int) (x_Ring_Head : Int) (x_Ring_Tail : Int) (x_Device_Base : Int) (x_Device_Size : Int) (x_Device_Count : Int) (x_Driver_Base : Int) (x_Driver_Size : Int) (x_Driver_Count : Int) (x_Held_Packet_DstMac : Int) (x_Held_Packet_SrcMac : Int) (x_Held_Packet_Vlan : Int) (x_Held_Packet_Tos : Int) (x_Held_Packet_Id : Int) (x_Held_Packet_Ttl : Int) (x_Held_Packet_SrcIp : Int) (x_Held_Packet_DstIp : Int) (x_Held_Packet_Seg_Kind : Int) (x_Held_Packet_Seg_SrcPort : Int) (x_Held_Packet_Seg_DstPort : Int) (x_Held_Packet_Seg_Seq : Int) (x_Held_Packet_Seg_Ack : Int) (x_Held_Packet_Seg_Flags : Int) (x_Held_Packet_Seg_Window : Int) (x_Held_Packet_Seg_Body : ByteArray) (x_Held_Size : Int) (x_Held_Count : Int) (x_Holding : Bool) (x_Dropped : Int) (l : Int) (hb : x_Held_Packet_Seg_Body.size ≤ maxLen) (h0 : 0 ≤ l) (hl : l ≤ 1048576) (h : l < (x_Held_Packet_Seg_Body.size : Int)) (w : World) :
    Calls Try.prog 63 #[.agg #[.int .i64 x_Ring_Base, .int .i64 x_Ring_Size, .int .i64 x_Ring_Head, .int .i64 x_Ring_Tail, .int .i64 x_Device_Base, .int .i64 x_Device_Size, .int .i64 x_Device_Count, .int .i64 x_Driver_Base, .int .i64 x_Driver_Size, .int .i64 x_Driver_Count, .int .i64 x_Held_Packet_DstMac, .int .i64 x_Held_Packet_SrcMac, .int .i64 x_Held_Packet_Vlan, .int .i64 x_Held_Packet_Tos, .int .i64 x_Held_Packet_Id, .int .i64 x_Held_Packet_Ttl, .int .i64 x_Held_Packet_SrcIp, .int .i64 x_Held_Packet_DstIp, .int .i64 x_Held_Packet_Seg_Kind, .int .i64 x_Held_Packet_Seg_SrcPort, .int .i64 x_Held_Packet_Seg_DstPort, .int .i64 x_Held_Packet_Seg_Seq, .int .i64 x_Held_Packet_Seg_Ack, .int .i64 x_Held_Packet_Seg_Flags, .int .i64 x_Held_Packet_Seg_Window, .string x_Held_Packet_Seg_Body, .int .i64 x_Held_Size, .int .i64 x_Held_Count, .bool x_Holding, .int .i64 x_Dropped], .int .i64 l] w fun e w' => e = .returned (.int .i64 (-1)) ∧ Ex w w' := by
  have hb' := hb
  unfold maxLen at hb'
  have HS := St.start w
  go_enter Try.func63, Try.ntmps63
  go_wp2_with (first
      | (go_at_call 95; (with_reducible refine (szSuper_gt _ _ _ _ _ _ _ _ _ _ _ _ _ _ _ _ _ _ _ hb h0 hl h _).mono ?_); rintro e w' ⟨rfl, hx⟩; replace HS := HS.grow hx; clear hx)
      | (refine wpList_box_st (o := ⟨some 2, .box _ _, _, _, _, _⟩) rfl _ _ rfl (v := .agg (List.toArray _)) rfl HS ?_; clear HS; intro w2 b2 hb2 HS; simp only [Value.cells] at HS)
      | (refine wpList_box_st (o := ⟨some 2, .box _ _, _, _, _, _⟩) rfl _ _ rfl (v := .agg _) rfl HS ?_; clear HS; intro w2 b2 hb2 HS; simp only [Value.cells] at HS)
      | (refine wpList_loadA_st (o := ⟨some 6, .load _ _, _, _, _, _⟩) rfl _ _ rfl rfl HS (by repeat (first | exact Take.head | apply Take.tail)) ag_laws_Super (by simp only [List.drop_succ_cons, List.drop_zero, List.take_succ_cons, List.take_zero, List.take_nil]; rfl) rfl ?_))
  go_ret
  exact ⟨rfl, HS.ex⟩

theorem rxOkP {b s h t db dz dc eb ez ec dm sm vl tos id ttl si di kind sp dp seq ack fl win : Int} {bd : ByteArray} {hz hc : Int} {hold : Bool} {drop : Int} (hb : bd.size ≤ maxLen) {q : Bool} (hq : rxOkB b s h t db dz dc eb ez ec dm sm vl tos id ttl si di kind sp dp seq ack fl win bd hz hc hold drop = q) (w : World) :
    Calls Try.prog 66 #[.agg #[.int .i64 b, .int .i64 s, .int .i64 h, .int .i64 t, .int .i64 db, .int .i64 dz, .int .i64 dc, .int .i64 eb, .int .i64 ez, .int .i64 ec, .int .i64 dm, .int .i64 sm, .int .i64 vl, .int .i64 tos, .int .i64 id, .int .i64 ttl, .int .i64 si, .int .i64 di, .int .i64 kind, .int .i64 sp, .int .i64 dp, .int .i64 seq, .int .i64 ack, .int .i64 fl, .int .i64 win, .string bd, .int .i64 hz, .int .i64 hc, .bool hold, .int .i64 drop]] w fun e w' => e = .returned (.bool q) ∧ Ex w w' := hq ▸ rxOk_any b s h t db dz dc eb ez ec dm sm vl tos id ttl si di kind sp dp seq ack fl win bd hz hc hold drop hb w

theorem rxOkSP {b s h t db dz dc eb ez ec dm sm vl tos id ttl si di kind sp dp seq ack fl win : Int} {bd : ByteArray} {hz hc : Int} {hold : Bool} {drop : Int} (hb : bd.size ≤ maxLen) {q : Bool} (hq : rxOkB b s h t db dz dc eb ez ec dm sm vl tos id ttl si di kind sp dp seq ack fl win bd hz hc hold drop = q) (w : World) :
    Calls Try.prog 64 #[.agg #[.int .i64 b, .int .i64 s, .int .i64 h, .int .i64 t, .int .i64 db, .int .i64 dz, .int .i64 dc, .int .i64 eb, .int .i64 ez, .int .i64 ec, .int .i64 dm, .int .i64 sm, .int .i64 vl, .int .i64 tos, .int .i64 id, .int .i64 ttl, .int .i64 si, .int .i64 di, .int .i64 kind, .int .i64 sp, .int .i64 dp, .int .i64 seq, .int .i64 ack, .int .i64 fl, .int .i64 win, .string bd, .int .i64 hz, .int .i64 hc, .bool hold, .int .i64 drop]] w fun e w' => e = .returned (.bool q) ∧ Ex w w' := hq ▸ rxOkS_any b s h t db dz dc eb ez ec dm sm vl tos id ttl si di kind sp dp seq ack fl win bd hz hc hold drop hb w

set_option maxRecDepth 100000 in
set_option maxHeartbeats 4000000 in
theorem walk_FnExactRxOk (w : World) (aQ_Ring_Base : Int) (haQ_Ring_Base : i64ok aQ_Ring_Base) (aQ_Ring_Size : Int) (haQ_Ring_Size : i64ok aQ_Ring_Size) (aQ_Ring_Head : Int) (haQ_Ring_Head : i64ok aQ_Ring_Head) (aQ_Ring_Tail : Int) (haQ_Ring_Tail : i64ok aQ_Ring_Tail) (aQ_Device_Base : Int) (haQ_Device_Base : i64ok aQ_Device_Base) (aQ_Device_Size : Int) (haQ_Device_Size : i64ok aQ_Device_Size) (aQ_Device_Count : Int) (haQ_Device_Count : i64ok aQ_Device_Count) (aQ_Driver_Base : Int) (haQ_Driver_Base : i64ok aQ_Driver_Base) (aQ_Driver_Size : Int) (haQ_Driver_Size : i64ok aQ_Driver_Size) (aQ_Driver_Count : Int) (haQ_Driver_Count : i64ok aQ_Driver_Count) (aQ_Held_Packet_DstMac : Int) (haQ_Held_Packet_DstMac : i64ok aQ_Held_Packet_DstMac) (aQ_Held_Packet_SrcMac : Int) (haQ_Held_Packet_SrcMac : i64ok aQ_Held_Packet_SrcMac) (aQ_Held_Packet_Vlan : Int) (haQ_Held_Packet_Vlan : i64ok aQ_Held_Packet_Vlan) (aQ_Held_Packet_Tos : Int) (haQ_Held_Packet_Tos : i64ok aQ_Held_Packet_Tos) (aQ_Held_Packet_Id : Int) (haQ_Held_Packet_Id : i64ok aQ_Held_Packet_Id) (aQ_Held_Packet_Ttl : Int) (haQ_Held_Packet_Ttl : i64ok aQ_Held_Packet_Ttl) (aQ_Held_Packet_SrcIp : Int) (haQ_Held_Packet_SrcIp : i64ok aQ_Held_Packet_SrcIp) (aQ_Held_Packet_DstIp : Int) (haQ_Held_Packet_DstIp : i64ok aQ_Held_Packet_DstIp) (aQ_Held_Packet_Seg_Kind : Int) (haQ_Held_Packet_Seg_Kind : i64ok aQ_Held_Packet_Seg_Kind) (aQ_Held_Packet_Seg_SrcPort : Int) (haQ_Held_Packet_Seg_SrcPort : i64ok aQ_Held_Packet_Seg_SrcPort) (aQ_Held_Packet_Seg_DstPort : Int) (haQ_Held_Packet_Seg_DstPort : i64ok aQ_Held_Packet_Seg_DstPort) (aQ_Held_Packet_Seg_Seq : Int) (haQ_Held_Packet_Seg_Seq : i64ok aQ_Held_Packet_Seg_Seq) (aQ_Held_Packet_Seg_Ack : Int) (haQ_Held_Packet_Seg_Ack : i64ok aQ_Held_Packet_Seg_Ack) (aQ_Held_Packet_Seg_Flags : Int) (haQ_Held_Packet_Seg_Flags : i64ok aQ_Held_Packet_Seg_Flags) (aQ_Held_Packet_Seg_Window : Int) (haQ_Held_Packet_Seg_Window : i64ok aQ_Held_Packet_Seg_Window) (aQ_Held_Packet_Seg_Body : ByteArray) (haQ_Held_Packet_Seg_Body : aQ_Held_Packet_Seg_Body.size ≤ maxLen) (aQ_Held_Size : Int) (haQ_Held_Size : i64ok aQ_Held_Size) (aQ_Held_Count : Int) (haQ_Held_Count : i64ok aQ_Held_Count) (aQ_Holding : Bool) (aQ_Dropped : Int) (haQ_Dropped : i64ok aQ_Dropped) :
    Calls Try.prog 14 #[.agg #[.int .i64 aQ_Ring_Base, .int .i64 aQ_Ring_Size, .int .i64 aQ_Ring_Head, .int .i64 aQ_Ring_Tail, .int .i64 aQ_Device_Base, .int .i64 aQ_Device_Size, .int .i64 aQ_Device_Count, .int .i64 aQ_Driver_Base, .int .i64 aQ_Driver_Size, .int .i64 aQ_Driver_Count, .int .i64 aQ_Held_Packet_DstMac, .int .i64 aQ_Held_Packet_SrcMac, .int .i64 aQ_Held_Packet_Vlan, .int .i64 aQ_Held_Packet_Tos, .int .i64 aQ_Held_Packet_Id, .int .i64 aQ_Held_Packet_Ttl, .int .i64 aQ_Held_Packet_SrcIp, .int .i64 aQ_Held_Packet_DstIp, .int .i64 aQ_Held_Packet_Seg_Kind, .int .i64 aQ_Held_Packet_Seg_SrcPort, .int .i64 aQ_Held_Packet_Seg_DstPort, .int .i64 aQ_Held_Packet_Seg_Seq, .int .i64 aQ_Held_Packet_Seg_Ack, .int .i64 aQ_Held_Packet_Seg_Flags, .int .i64 aQ_Held_Packet_Seg_Window, .string aQ_Held_Packet_Seg_Body, .int .i64 aQ_Held_Size, .int .i64 aQ_Held_Count, .bool aQ_Holding, .int .i64 aQ_Dropped]] w fun e w' => e = .returned (.bool true) ∧ Ex w w' := by
  by_cases hbig : (1048576 : Int) < aQ_Held_Packet_Seg_Body.size
  case pos =>
    have HS := St.start w
    go_enter Try.func14, Try.ntmps14
    go_wp2_with (first
          | (go_at_call 63; (with_reducible refine (szRxQueue_gt _ _ _ _ _ _ _ _ _ _ _ _ _ _ _ _ _ _ _ _ _ _ _ _ _ _ _ _ _ _ _ haQ_Held_Packet_Seg_Body (by omega) (by omega) (by omega) _).mono ?_); rintro e w' ⟨rfl, hx⟩; replace HS := HS.grow hx; clear hx)
          | (refine wpList_box_st (o := ⟨some 1, .box _ _, _, _, _, _⟩) rfl _ _ rfl (v := .agg (List.toArray _)) rfl HS ?_; clear HS; intro w1 b1 hb1 HS; simp only [Value.cells] at HS)
          | (refine wpList_box_st (o := ⟨some 1, .box _ _, _, _, _, _⟩) rfl _ _ rfl (v := .agg _) rfl HS ?_; clear HS; intro w1 b1 hb1 HS; simp only [Value.cells] at HS)
          | (refine wpList_loadA_st (o := ⟨some 6, .load _ _, _, _, _, _⟩) rfl _ _ rfl rfl HS (by repeat (first | exact Take.head | apply Take.tail)) ag_laws_RxQueue (by simp only [List.drop_succ_cons, List.drop_zero, List.take_succ_cons, List.take_zero, List.take_nil]; rfl) rfl ?_)
          | (refine wpList_loadA_st (o := ⟨some 11, .load _ _, _, _, _, _⟩) rfl _ _ rfl rfl HS (by repeat (first | exact Take.head | apply Take.tail)) ag_laws_RxQueue (by simp only [List.drop_succ_cons, List.drop_zero, List.take_succ_cons, List.take_zero, List.take_nil]; rfl) rfl ?_)
          | (refine wpList_loadA_st (o := ⟨some 14, .load _ _, _, _, _, _⟩) rfl _ _ rfl rfl HS (by repeat (first | exact Take.head | apply Take.tail)) ag_laws_RxQueue (by simp only [List.drop_succ_cons, List.drop_zero, List.take_succ_cons, List.take_zero, List.take_nil]; rfl) rfl ?_))
    go_ret
    exact ⟨rfl, HS.ex⟩
  case neg =>
  obtain ⟨q, hq⟩ : ∃ q, rxOkB aQ_Ring_Base aQ_Ring_Size aQ_Ring_Head aQ_Ring_Tail aQ_Device_Base aQ_Device_Size aQ_Device_Count aQ_Driver_Base aQ_Driver_Size aQ_Driver_Count aQ_Held_Packet_DstMac aQ_Held_Packet_SrcMac aQ_Held_Packet_Vlan aQ_Held_Packet_Tos aQ_Held_Packet_Id aQ_Held_Packet_Ttl aQ_Held_Packet_SrcIp aQ_Held_Packet_DstIp aQ_Held_Packet_Seg_Kind aQ_Held_Packet_Seg_SrcPort aQ_Held_Packet_Seg_DstPort aQ_Held_Packet_Seg_Seq aQ_Held_Packet_Seg_Ack aQ_Held_Packet_Seg_Flags aQ_Held_Packet_Seg_Window aQ_Held_Packet_Seg_Body aQ_Held_Size aQ_Held_Count aQ_Holding aQ_Dropped = q := ⟨_, rfl⟩
  have HB := hid hq
  clear hq
  cases q
  all_goals
    have HS := St.start w
    go_enter Try.func14, Try.ntmps14
    go_wp2_with (first
          | (go_at_call 63; (with_reducible refine (szRxQueue_le _ _ _ _ _ _ _ _ _ _ _ _ _ _ _ _ _ _ _ _ _ _ _ _ _ _ _ _ _ _ _ haQ_Held_Packet_Seg_Body (by omega) (by omega) _).mono ?_); rintro e w' ⟨rfl, hx⟩; replace HS := HS.grow hx; clear hx)
          | (go_at_call 65; (with_reducible refine (toRxQueue_any _ _ _ _ _ _ _ _ _ _ _ _ _ _ _ _ _ _ _ _ _ _ _ _ _ _ _ _ _ _ _).mono ?_); rintro e w' ⟨rfl, hx⟩; replace HS := HS.grow hx; clear hx)
          | (go_at_call 64; (with_reducible refine (rxOkSP haQ_Held_Packet_Seg_Body HB.out _).mono ?_); rintro e w' ⟨rfl, hx⟩; replace HS := HS.grow hx; clear hx)
          | (go_at_call 66; (with_reducible refine (rxOkP haQ_Held_Packet_Seg_Body HB.out _).mono ?_); rintro e w' ⟨rfl, hx⟩; replace HS := HS.grow hx; clear hx)
          | (refine wpList_box_st (o := ⟨some 1, .box _ _, _, _, _, _⟩) rfl _ _ rfl (v := .agg (List.toArray _)) rfl HS ?_; clear HS; intro w1 b1 hb1 HS; simp only [Value.cells] at HS)
          | (refine wpList_box_st (o := ⟨some 1, .box _ _, _, _, _, _⟩) rfl _ _ rfl (v := .agg _) rfl HS ?_; clear HS; intro w1 b1 hb1 HS; simp only [Value.cells] at HS)
          | (refine wpList_loadA_st (o := ⟨some 6, .load _ _, _, _, _, _⟩) rfl _ _ rfl rfl HS (by repeat (first | exact Take.head | apply Take.tail)) ag_laws_RxQueue (by simp only [List.drop_succ_cons, List.drop_zero, List.take_succ_cons, List.take_zero, List.take_nil]; rfl) rfl ?_)
          | (refine wpList_loadA_st (o := ⟨some 11, .load _ _, _, _, _, _⟩) rfl _ _ rfl rfl HS (by repeat (first | exact Take.head | apply Take.tail)) ag_laws_RxQueue (by simp only [List.drop_succ_cons, List.drop_zero, List.take_succ_cons, List.take_zero, List.take_nil]; rfl) rfl ?_)
          | (refine wpList_loadA_st (o := ⟨some 14, .load _ _, _, _, _, _⟩) rfl _ _ rfl rfl HS (by repeat (first | exact Take.head | apply Take.tail)) ag_laws_RxQueue (by simp only [List.drop_succ_cons, List.drop_zero, List.take_succ_cons, List.take_zero, List.take_nil]; rfl) rfl ?_))
    go_ret
    exact ⟨rfl, HS.ex⟩


end Go.Proofs.Ytlpipllhbobfbaa
