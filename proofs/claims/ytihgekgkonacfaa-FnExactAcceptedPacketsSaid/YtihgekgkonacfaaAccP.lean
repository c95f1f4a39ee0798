/- AcceptedPackets: the program and the reference. -/
import Derived.Test.YtihgekgkonacfaaRows
import Derived.Test.YtihgekgkonacfaaLsPacket
import Derived.Test.YtihgekgkonacfaaAcc
import Derived.Test.YtihgekgkonacfaaFl
import Derived.Test.YtihgekgkonacfaaLit
import Derived.Test.YtihgekgkonacfaaTk
namespace Go.Proofs.Ytihgekgkonacfaa
open Go.RowKit
set_option linter.unusedVariables false
set_option linter.unusedSimpArgs false

def accF (mac : Int) (pr : Bool) (xs : List Int) (l : List DtPacket) : List DtPacket := l.filter fun p => acceptsB mac pr xs p.1 p.2.2.1
theorem accF_len (mac : Int) (pr : Bool) (xs : List Int) (l : List DtPacket) : (accF mac pr xs l).length ≤ l.length := List.length_filter_le _ _
theorem accF_step (mac : Int) (pr : Bool) (xs : List Int) {l : List DtPacket} {k : Nat} (h : k < l.length) : accF mac pr xs (l.take (k + 1)) = if acceptsB mac pr xs l[k].1 l[k].2.2.1 = true then accF mac pr xs (l.take k) ++ [l[k]] else accF mac pr xs (l.take k) := by
  unfold accF
  rw [List.take_add_one, List.getElem?_eq_getElem h, List.filter_append]
  split
  · rename_i h1; simp [h1]
  · rename_i h1; simp [h1]

set_option maxRecDepth 100000 in
set_option maxHeartbeats 4000000 in
theorem acceptedPackets_any (v1 v2 : Value) (xs : List Int) (l : List DtPacket) (mac : Int) (pr : Bool) (w : World) (k1 : Holds w xs [v1]) (k2 : Holds w l [v2]) (hl : l.length ≤ 1048576) :
    Calls Try.prog 11 #[.agg #[.int .i64 mac, .bool pr, v1], v2] w (RetSl w (accF mac pr xs l)) := by
  obtain ⟨AA, cap, rfl, z1, z2⟩ := k1.fl
  unfold maxLen at z2
  obtain ⟨BB, cap2, rfl, y1, y2⟩ := k2.fl
  unfold maxLen at y2
  have HS := St.start w
  go_enter Try.func11, Try.ntmps11
  go_wp2_with (first
        | ((with_reducible (show wpList _ _ _ (Oper.mk (some 2) (Op.box _ _) _ _ _ _ :: _) _ _)); refine wpList_box_st (o := ⟨some 2, .box _ _, _, _, _, _⟩) rfl _ _ rfl (v := .agg (List.toArray _)) rfl HS ?_; clear HS; intro w2 b2 hb2 HS; simp only [Value.cells] at HS)
        | ((with_reducible (show wpList _ _ _ (Oper.mk (some 2) (Op.box _ _) _ _ _ _ :: _) _ _)); refine wpList_box_st (o := ⟨some 2, .box _ _, _, _, _, _⟩) rfl _ _ rfl (v := .agg _) rfl HS ?_; clear HS; intro w2 b2 hb2 HS; simp only [Value.cells] at HS)
        | ((with_reducible (show wpList _ _ _ (Oper.mk (some 8) (Op.buildSlice _ _ _) _ _ _ _ :: _) _ _)); refine wpList_bslice0_st (o := ⟨some 8, .buildSlice _ _ _, _, _, _, _⟩) rfl _ rfl _ Try.underlying33 in_impl_Packet HS ?_; clear HS; intro w8 b8 hb8 HS; replace HS := HS.slotMade 16 tk; replace HS := HS.shut (α := DtPacket) (xs := []) tk rfl (fun _ h => by cases h))
        | ((with_reducible (show wpList _ _ _ (Oper.mk (some 14) (Op.load _ _) _ _ _ _ :: _) _ _)); refine wpList_loadH (o := ⟨some 14, .load _ _, _, _, _, _⟩) rfl _ _ rfl rfl HS (fun _ hs => k2.ex hs.ex) HK.out (by first | rfl | (simp; done) | omega) ag_impl_Packet rfl flt ?_)
        | ((with_reducible (show wpList _ _ _ (Oper.mk (some 7) (Op.alloc _) _ _ _ _ :: _) _ _)); refine wpList_alloc_st (o := ⟨some 7, .alloc _, _, _, _, _⟩) rfl _ rfl zc_impl_Packet HS ?_; clear HS; intro w7 b7 hb7 HS)
        | ((with_reducible (show wpList _ _ _ (Oper.mk none (Op.store _ (.tmp 7) _) _ _ _ _ :: _) _ _)); refine wpList_store_st (o := ⟨none, .store _ (.tmp 7) _, _, _, _, _⟩) rfl _ _ _ rfl rfl (v := .agg (List.toArray _)) rfl HS tk sz_impl_Packet vcs rfx rfx (by simp) ?_ rfl; clear HS; intro w4_3 hz4_3 HS; simp only [nicL, Value.cells, List.append_nil] at HS)
        | ((with_reducible (show wpList _ _ _ (Oper.mk none (Op.store _ (.tmp 7) _) _ _ _ _ :: _) _ _)); refine wpList_store_st (o := ⟨none, .store _ (.tmp 7) _, _, _, _, _⟩) rfl _ _ _ rfl rfl (v := .agg _) rfl HS tk sz_impl_Packet vcs rfx rfx (by simp) ?_ rfl; clear HS; intro w4_3 hz4_3 HS; simp only [nicL, Value.cells, List.append_nil] at HS)
        | ((with_reducible (show wpList _ _ _ (Oper.mk (some 15) (Op.load _ _) _ _ _ _ :: _) _ _)); refine wpList_loadA_st (o := ⟨some 15, .load _ _, _, _, _, _⟩) rfl _ _ rfl rfl HS tk ag_impl_Filter lit rfl ?_)
        | ((with_reducible (show wpList _ _ _ (Oper.mk (some 16) (Op.load _ _) _ _ _ _ :: _) _ _)); refine wpList_loadA_st (o := ⟨some 16, .load _ _, _, _, _, _⟩) rfl _ _ rfl rfl HS tk ag_impl_Packet lit rfl ?_)
        | ((with_reducible (show wpList _ _ _ (Oper.mk (some 19) (Op.load _ _) _ _ _ _ :: _) _ _)); refine wpList_loadA_st (o := ⟨some 19, .load _ _, _, _, _, _⟩) rfl _ _ rfl rfl HS tk ag_impl_Packet lit rfl ?_)
        | ((with_reducible (show wpList _ _ _ (Oper.mk (some 20) (Op.buildSlice _ _ _) _ _ _ _ :: _) _ _)); refine wpList_bslice1_st (o := ⟨some 20, .buildSlice _ _ _, _, _, _, _⟩) rfl _ _ rfl _ Try.underlying33 in_impl_Packet (by decide) (by decide) (x := .agg (List.toArray _)) rfl vcs rfx HS ?_; clear HS; intro w20 b20 hb20 HS)
        | ((with_reducible (show wpList _ _ _ (Oper.mk (some 20) (Op.buildSlice _ _ _) _ _ _ _ :: _) _ _)); refine wpList_bslice1_st (o := ⟨some 20, .buildSlice _ _ _, _, _, _, _⟩) rfl _ _ rfl _ Try.underlying33 in_impl_Packet (by decide) (by decide) (x := .agg _) rfl vcs rfx HS ?_; clear HS; intro w20 b20 hb20 HS)
        | ((with_reducible (show wpList _ _ _ (Oper.mk (some 21) (Op.call { callee := .builtin .append, args := _, argTypes := _ }) _ _ _ _ :: _) _ _)); refine wpList_appO_st (α := DtPacket) (el := (x_DstMac, x_SrcMac, x_Vlan, x_Tos, x_Id, x_Ttl, x_SrcIp, x_DstIp, (x_Seg_Kind, x_Seg_SrcPort, x_Seg_DstPort, x_Seg_Seq, x_Seg_Ack, x_Seg_Flags, x_Seg_Window, x_Seg_Body))) (o := ⟨some 21, .call { callee := .builtin .append, args := _, argTypes := _ }, _, _, _, _⟩) rfl _ _ _ _ rfl _ Try.underlying33 in_impl_Packet rfl rfl HS tk rfl (Src.row HS tk Try.underlying33 rfx rfx) rfl HOK.out mxl (by omega) ?_; clear HS; intro a21 c21 w21 hb21 HS))
  go_loopw [5, 11] (fun ov i wr => ∃ (k : Nat) (out : List DtPacket) (A1 : Option Addr) (c1 : Nat), k ≤ l.length ∧ Hid (out = accF mac pr xs (l.take k)) ∧ i = .int .i64 (k : Int) ∧ ov = .slice A1 out.length c1 ∧ St w wr [rowA b2 [.int .i64 mac, .bool pr, .slice AA xs.length cap] 38, ownA out [.slice A1 out.length c1]]) (fun _ i _ => l.length - (intOf i).toNat)
  case atStart => exact ⟨0, [], _, _, Nat.zero_le _, hid rfl, rfl, rfl, (HS.arr (by repeat (first | exact Arr.nil | (with_reducible exact take_all _) | (refine Arr.cons tk ?_) | (refine arr_skip ?_))))⟩
  case round =>
    clear HS
    obtain ⟨k, out, A1, c1, hkl, HO, rfl, rfl, HS⟩ := hrel
    by_cases hlt : k < l.length
    case pos =>
      obtain ⟨b, off, rfl⟩ := k2.flA (by omega)
      have hol : out.length ≤ 1048576 := by rw [HO.out]; have := accF_len mac pr xs (l.take k); rw [List.length_take] at this; omega
      have HOK : Hid (Flat.ok l[k]) := hid (k2.flok (List.getElem_mem hlt))
      have HST := accF_step mac pr xs hlt
      rw [← HO.out] at HST
      have HK := hid (List.getElem?_eq_getElem hlt)
      generalize l[k] = x at *
      obtain ⟨x_DstMac, x_SrcMac, x_Vlan, x_Tos, x_Id, x_Ttl, x_SrcIp, x_DstIp, ⟨x_Seg_Kind, x_Seg_SrcPort, x_Seg_DstPort, x_Seg_Seq, x_Seg_Ack, x_Seg_Flags, x_Seg_Window, x_Seg_Body⟩⟩ := x
      cases hv : acceptsB mac pr xs x_DstMac x_Vlan
      case false =>
        have HO2 : Hid (out = accF mac pr xs (l.take (k + 1))) := hid (by rw [HST, if_neg (by show ¬ acceptsB mac pr xs x_DstMac x_Vlan = true; rw [hv]; decide)])
        have HV := hid hv
        clear hv HST
        go_wp2_with (first
              | (go_at_call 10; (with_reducible refine (accepts_any mac pr _ xs x_DstMac x_SrcMac x_Vlan x_Tos x_Id x_Ttl x_SrcIp x_DstIp x_Seg_Kind x_Seg_SrcPort x_Seg_DstPort x_Seg_Seq x_Seg_Ack x_Seg_Flags x_Seg_Window x_Seg_Body _ (k1.ex HS.ex)).mono ?_); rintro e w' ⟨rfl, hx⟩; rw [HV.out]; replace HS := HS.grow hx; clear hx)
              | ((with_reducible (show wpList _ _ _ (Oper.mk (some 2) (Op.box _ _) _ _ _ _ :: _) _ _)); refine wpList_box_st (o := ⟨some 2, .box _ _, _, _, _, _⟩) rfl _ _ rfl (v := .agg (List.toArray _)) rfl HS ?_; clear HS; intro w2 b2 hb2 HS; simp only [Value.cells] at HS)
              | ((with_reducible (show wpList _ _ _ (Oper.mk (some 2) (Op.box _ _) _ _ _ _ :: _) _ _)); refine wpList_box_st (o := ⟨some 2, .box _ _, _, _, _, _⟩) rfl _ _ rfl (v := .agg _) rfl HS ?_; clear HS; intro w2 b2 hb2 HS; simp only [Value.cells] at HS)
              | ((with_reducible (show wpList _ _ _ (Oper.mk (some 8) (Op.buildSlice _ _ _) _ _ _ _ :: _) _ _)); refine wpList_bslice0_st (o := ⟨some 8, .buildSlice _ _ _, _, _, _, _⟩) rfl _ rfl _ Try.underlying33 in_impl_Packet HS ?_; clear HS; intro w8 b8 hb8 HS; replace HS := HS.slotMade 16 tk; replace HS := HS.shut (α := DtPacket) (xs := []) tk rfl (fun _ h => by cases h))
              | ((with_reducible (show wpList _ _ _ (Oper.mk (some 14) (Op.load _ _) _ _ _ _ :: _) _ _)); refine wpList_loadH (o := ⟨some 14, .load _ _, _, _, _, _⟩) rfl _ _ rfl rfl HS (fun _ hs => k2.ex hs.ex) HK.out (by first | rfl | (simp; done) | omega) ag_impl_Packet rfl flt ?_)
              | ((with_reducible (show wpList _ _ _ (Oper.mk (some 7) (Op.alloc _) _ _ _ _ :: _) _ _)); refine wpList_alloc_st (o := ⟨some 7, .alloc _, _, _, _, _⟩) rfl _ rfl zc_impl_Packet HS ?_; clear HS; intro w7 b7 hb7 HS)
              | ((with_reducible (show wpList _ _ _ (Oper.mk none (Op.store _ (.tmp 7) _) _ _ _ _ :: _) _ _)); refine wpList_store_st (o := ⟨none, .store _ (.tmp 7) _, _, _, _, _⟩) rfl _ _ _ rfl rfl (v := .agg (List.toArray _)) rfl HS tk sz_impl_Packet vcs rfx rfx (by simp) ?_ rfl; clear HS; intro w4_3 hz4_3 HS; simp only [nicL, Value.cells, List.append_nil] at HS)
              | ((with_reducible (show wpList _ _ _ (Oper.mk none (Op.store _ (.tmp 7) _) _ _ _ _ :: _) _ _)); refine wpList_store_st (o := ⟨none, .store _ (.tmp 7) _, _, _, _, _⟩) rfl _ _ _ rfl rfl (v := .agg _) rfl HS tk sz_impl_Packet vcs rfx rfx (by simp) ?_ rfl; clear HS; intro w4_3 hz4_3 HS; simp only [nicL, Value.cells, List.append_nil] at HS)
              | ((with_reducible (show wpList _ _ _ (Oper.mk (some 15) (Op.load _ _) _ _ _ _ :: _) _ _)); refine wpList_loadA_st (o := ⟨some 15, .load _ _, _, _, _, _⟩) rfl _ _ rfl rfl HS tk ag_impl_Filter lit rfl ?_)
              | ((with_reducible (show wpList _ _ _ (Oper.mk (some 16) (Op.load _ _) _ _ _ _ :: _) _ _)); refine wpList_loadA_st (o := ⟨some 16, .load _ _, _, _, _, _⟩) rfl _ _ rfl rfl HS tk ag_impl_Packet lit rfl ?_)
              | ((with_reducible (show wpList _ _ _ (Oper.mk (some 19) (Op.load _ _) _ _ _ _ :: _) _ _)); refine wpList_loadA_st (o := ⟨some 19, .load _ _, _, _, _, _⟩) rfl _ _ rfl rfl HS tk ag_impl_Packet lit rfl ?_)
              | ((with_reducible (show wpList _ _ _ (Oper.mk (some 20) (Op.buildSlice _ _ _) _ _ _ _ :: _) _ _)); refine wpList_bslice1_st (o := ⟨some 20, .buildSlice _ _ _, _, _, _, _⟩) rfl _ _ rfl _ Try.underlying33 in_impl_Packet (by decide) (by decide) (x := .agg (List.toArray _)) rfl vcs rfx HS ?_; clear HS; intro w20 b20 hb20 HS)
              | ((with_reducible (show wpList _ _ _ (Oper.mk (some 20) (Op.buildSlice _ _ _) _ _ _ _ :: _) _ _)); refine wpList_bslice1_st (o := ⟨some 20, .buildSlice _ _ _, _, _, _, _⟩) rfl _ _ rfl _ Try.underlying33 in_impl_Packet (by decide) (by decide) (x := .agg _) rfl vcs rfx HS ?_; clear HS; intro w20 b20 hb20 HS)
              | ((with_reducible (show wpList _ _ _ (Oper.mk (some 21) (Op.call { callee := .builtin .append, args := _, argTypes := _ }) _ _ _ _ :: _) _ _)); refine wpList_appO_st (α := DtPacket) (el := (x_DstMac, x_SrcMac, x_Vlan, x_Tos, x_Id, x_Ttl, x_SrcIp, x_DstIp, (x_Seg_Kind, x_Seg_SrcPort, x_Seg_DstPort, x_Seg_Seq, x_Seg_Ack, x_Seg_Flags, x_Seg_Window, x_Seg_Body))) (o := ⟨some 21, .call { callee := .builtin .append, args := _, argTypes := _ }, _, _, _, _⟩) rfl _ _ _ _ rfl _ Try.underlying33 in_impl_Packet rfl rfl HS tk rfl (Src.row HS tk Try.underlying33 rfx rfx) rfl HOK.out mxl (by omega) ?_; clear HS; intro a21 c21 w21 hb21 HS))
        go_roundw
        case rel => exact ⟨k + 1, out, _, _, hlt, HO2, by go_num, rfl, (HS.arr (by repeat (first | exact Arr.nil | (with_reducible exact take_all _) | (refine Arr.cons tk ?_) | (refine arr_skip ?_))))⟩
        case measure => simp [intOf]; omega
      case true =>
        have HO2 : Hid (out ++ [((x_DstMac, x_SrcMac, x_Vlan, x_Tos, x_Id, x_Ttl, x_SrcIp, x_DstIp, (x_Seg_Kind, x_Seg_SrcPort, x_Seg_DstPort, x_Seg_Seq, x_Seg_Ack, x_Seg_Flags, x_Seg_Window, x_Seg_Body)) : DtPacket)] = accF mac pr xs (l.take (k + 1))) := hid (by rw [HST, if_pos (show acceptsB mac pr xs x_DstMac x_Vlan = true from hv)])
        have HV := hid hv
        clear hv HST
        go_wp2_with (first
              | (go_at_call 10; (with_reducible refine (accepts_any mac pr _ xs x_DstMac x_SrcMac x_Vlan x_Tos x_Id x_Ttl x_SrcIp x_DstIp x_Seg_Kind x_Seg_SrcPort x_Seg_DstPort x_Seg_Seq x_Seg_Ack x_Seg_Flags x_Seg_Window x_Seg_Body _ (k1.ex HS.ex)).mono ?_); rintro e w' ⟨rfl, hx⟩; rw [HV.out]; replace HS := HS.grow hx; clear hx)
              | ((with_reducible (show wpList _ _ _ (Oper.mk (some 2) (Op.box _ _) _ _ _ _ :: _) _ _)); refine wpList_box_st (o := ⟨some 2, .box _ _, _, _, _, _⟩) rfl _ _ rfl (v := .agg (List.toArray _)) rfl HS ?_; clear HS; intro w2 b2 hb2 HS; simp only [Value.cells] at HS)
              | ((with_reducible (show wpList _ _ _ (Oper.mk (some 2) (Op.box _ _) _ _ _ _ :: _) _ _)); refine wpList_box_st (o := ⟨some 2, .box _ _, _, _, _, _⟩) rfl _ _ rfl (v := .agg _) rfl HS ?_; clear HS; intro w2 b2 hb2 HS; simp only [Value.cells] at HS)
              | ((with_reducible (show wpList _ _ _ (Oper.mk (some 8) (Op.buildSlice _ _ _) _ _ _ _ :: _) _ _)); refine wpList_bslice0_st (o := ⟨some 8, .buildSlice _ _ _, _, _, _, _⟩) rfl _ rfl _ Try.underlying33 in_impl_Packet HS ?_; clear HS; intro w8 b8 hb8 HS; replace HS := HS.slotMade 16 tk; replace HS := HS.shut (α := DtPacket) (xs := []) tk rfl (fun _ h => by cases h))
              | ((with_reducible (show wpList _ _ _ (Oper.mk (some 14) (Op.load _ _) _ _ _ _ :: _) _ _)); refine wpList_loadH (o := ⟨some 14, .load _ _, _, _, _, _⟩) rfl _ _ rfl rfl HS (fun _ hs => k2.ex hs.ex) HK.out (by first | rfl | (simp; done) | omega) ag_impl_Packet rfl flt ?_)
              | ((with_reducible (show wpList _ _ _ (Oper.mk (some 7) (Op.alloc _) _ _ _ _ :: _) _ _)); refine wpList_alloc_st (o := ⟨some 7, .alloc _, _, _, _, _⟩) rfl _ rfl zc_impl_Packet HS ?_; clear HS; intro w7 b7 hb7 HS)
              | ((with_reducible (show wpList _ _ _ (Oper.mk none (Op.store _ (.tmp 7) _) _ _ _ _ :: _) _ _)); refine wpList_store_st (o := ⟨none, .store _ (.tmp 7) _, _, _, _, _⟩) rfl _ _ _ rfl rfl (v := .agg (List.toArray _)) rfl HS tk sz_impl_Packet vcs rfx rfx (by simp) ?_ rfl; clear HS; intro w4_3 hz4_3 HS; simp only [nicL, Value.cells, List.append_nil] at HS)
              | ((with_reducible (show wpList _ _ _ (Oper.mk none (Op.store _ (.tmp 7) _) _ _ _ _ :: _) _ _)); refine wpList_store_st (o := ⟨none, .store _ (.tmp 7) _, _, _, _, _⟩) rfl _ _ _ rfl rfl (v := .agg _) rfl HS tk sz_impl_Packet vcs rfx rfx (by simp) ?_ rfl; clear HS; intro w4_3 hz4_3 HS; simp only [nicL, Value.cells, List.append_nil] at HS)
              | ((with_reducible (show wpList _ _ _ (Oper.mk (some 15) (Op.load _ _) _ _ _ _ :: _) _ _)); refine wpList_loadA_st (o := ⟨some 15, .load _ _, _, _, _, _⟩) rfl _ _ rfl rfl HS tk ag_impl_Filter lit rfl ?_)
              | ((with_reducible (show wpList _ _ _ (Oper.mk (some 16) (Op.load _ _) _ _ _ _ :: _) _ _)); refine wpList_loadA_st (o := ⟨some 16, .load _ _, _, _, _, _⟩) rfl _ _ rfl rfl HS tk ag_impl_Packet lit rfl ?_)
              | ((with_reducible (show wpList _ _ _ (Oper.mk (some 19) (Op.load _ _) _ _ _ _ :: _) _ _)); refine wpList_loadA_st (o := ⟨some 19, .load _ _, _, _, _, _⟩) rfl _ _ rfl rfl HS tk ag_impl_Packet lit rfl ?_)
              | ((with_reducible (show wpList _ _ _ (Oper.mk (some 20) (Op.buildSlice _ _ _) _ _ _ _ :: _) _ _)); refine wpList_bslice1_st (o := ⟨some 20, .buildSlice _ _ _, _, _, _, _⟩) rfl _ _ rfl _ Try.underlying33 in_impl_Packet (by decide) (by decide) (x := .agg (List.toArray _)) rfl vcs rfx HS ?_; clear HS; intro w20 b20 hb20 HS)
              | ((with_reducible (show wpList _ _ _ (Oper.mk (some 20) (Op.buildSlice _ _ _) _ _ _ _ :: _) _ _)); refine wpList_bslice1_st (o := ⟨some 20, .buildSlice _ _ _, _, _, _, _⟩) rfl _ _ rfl _ Try.underlying33 in_impl_Packet (by decide) (by decide) (x := .agg _) rfl vcs rfx HS ?_; clear HS; intro w20 b20 hb20 HS)
              | ((with_reducible (show wpList _ _ _ (Oper.mk (some 21) (Op.call { callee := .builtin .append, args := _, argTypes := _ }) _ _ _ _ :: _) _ _)); refine wpList_appO_st (α := DtPacket) (el := (x_DstMac, x_SrcMac, x_Vlan, x_Tos, x_Id, x_Ttl, x_SrcIp, x_DstIp, (x_Seg_Kind, x_Seg_SrcPort, x_Seg_DstPort, x_Seg_Seq, x_Seg_Ack, x_Seg_Flags, x_Seg_Window, x_Seg_Body))) (o := ⟨some 21, .call { callee := .builtin .append, args := _, argTypes := _ }, _, _, _, _⟩) rfl _ _ _ _ rfl _ Try.underlying33 in_impl_Packet rfl rfl HS tk rfl (Src.row HS tk Try.underlying33 rfx rfx) rfl HOK.out mxl (by omega) ?_; clear HS; intro a21 c21 w21 hb21 HS))
        go_roundw
        case rel => exact ⟨k + 1, out ++ [((x_DstMac, x_SrcMac, x_Vlan, x_Tos, x_Id, x_Ttl, x_SrcIp, x_DstIp, (x_Seg_Kind, x_Seg_SrcPort, x_Seg_DstPort, x_Seg_Seq, x_Seg_Ack, x_Seg_Flags, x_Seg_Window, x_Seg_Body)) : DtPacket)], _, _, hlt, HO2, by go_num, by rw [List.length_append]; rfl, by rw [List.length_append]; exact (HS.arr (by repeat (first | exact Arr.nil | (with_reducible exact take_all _) | (refine Arr.cons tk ?_) | (refine arr_skip ?_))))⟩
        case measure => simp [intOf]; omega
    case neg =>
      have HD : Hid (out = accF mac pr xs l) := hid (by rw [HO.out, List.take_of_length_le (by omega)])
      go_wp2_with (first
            | ((with_reducible (show wpList _ _ _ (Oper.mk (some 2) (Op.box _ _) _ _ _ _ :: _) _ _)); refine wpList_box_st (o := ⟨some 2, .box _ _, _, _, _, _⟩) rfl _ _ rfl (v := .agg (List.toArray _)) rfl HS ?_; clear HS; intro w2 b2 hb2 HS; simp only [Value.cells] at HS)
            | ((with_reducible (show wpList _ _ _ (Oper.mk (some 2) (Op.box _ _) _ _ _ _ :: _) _ _)); refine wpList_box_st (o := ⟨some 2, .box _ _, _, _, _, _⟩) rfl _ _ rfl (v := .agg _) rfl HS ?_; clear HS; intro w2 b2 hb2 HS; simp only [Value.cells] at HS)
            | ((with_reducible (show wpList _ _ _ (Oper.mk (some 8) (Op.buildSlice _ _ _) _ _ _ _ :: _) _ _)); refine wpList_bslice0_st (o := ⟨some 8, .buildSlice _ _ _, _, _, _, _⟩) rfl _ rfl _ Try.underlying33 in_impl_Packet HS ?_; clear HS; intro w8 b8 hb8 HS; replace HS := HS.slotMade 16 tk; replace HS := HS.shut (α := DtPacket) (xs := []) tk rfl (fun _ h => by cases h))
            | ((with_reducible (show wpList _ _ _ (Oper.mk (some 14) (Op.load _ _) _ _ _ _ :: _) _ _)); refine wpList_loadH (o := ⟨some 14, .load _ _, _, _, _, _⟩) rfl _ _ rfl rfl HS (fun _ hs => k2.ex hs.ex) HK.out (by first | rfl | (simp; done) | omega) ag_impl_Packet rfl flt ?_)
            | ((with_reducible (show wpList _ _ _ (Oper.mk (some 7) (Op.alloc _) _ _ _ _ :: _) _ _)); refine wpList_alloc_st (o := ⟨some 7, .alloc _, _, _, _, _⟩) rfl _ rfl zc_impl_Packet HS ?_; clear HS; intro w7 b7 hb7 HS)
            | ((with_reducible (show wpList _ _ _ (Oper.mk none (Op.store _ (.tmp 7) _) _ _ _ _ :: _) _ _)); refine wpList_store_st (o := ⟨none, .store _ (.tmp 7) _, _, _, _, _⟩) rfl _ _ _ rfl rfl (v := .agg (List.toArray _)) rfl HS tk sz_impl_Packet vcs rfx rfx (by simp) ?_ rfl; clear HS; intro w4_3 hz4_3 HS; simp only [nicL, Value.cells, List.append_nil] at HS)
            | ((with_reducible (show wpList _ _ _ (Oper.mk none (Op.store _ (.tmp 7) _) _ _ _ _ :: _) _ _)); refine wpList_store_st (o := ⟨none, .store _ (.tmp 7) _, _, _, _, _⟩) rfl _ _ _ rfl rfl (v := .agg _) rfl HS tk sz_impl_Packet vcs rfx rfx (by simp) ?_ rfl; clear HS; intro w4_3 hz4_3 HS; simp only [nicL, Value.cells, List.append_nil] at HS)
            | ((with_reducible (show wpList _ _ _ (Oper.mk (some 15) (Op.load _ _) _ _ _ _ :: _) _ _)); refine wpList_loadA_st (o := ⟨some 15, .load _ _, _, _, _, _⟩) rfl _ _ rfl rfl HS tk ag_impl_Filter lit rfl ?_)
            | ((with_reducible (show wpList _ _ _ (Oper.mk (some 16) (Op.load _ _) _ _ _ _ :: _) _ _)); refine wpList_loadA_st (o := ⟨some 16, .load _ _, _, _, _, _⟩) rfl _ _ rfl rfl HS tk ag_impl_Packet lit rfl ?_)
            | ((with_reducible (show wpList _ _ _ (Oper.mk (some 19) (Op.load _ _) _ _ _ _ :: _) _ _)); refine wpList_loadA_st (o := ⟨some 19, .load _ _, _, _, _, _⟩) rfl _ _ rfl rfl HS tk ag_impl_Packet lit rfl ?_)
            | ((with_reducible (show wpList _ _ _ (Oper.mk (some 20) (Op.buildSlice _ _ _) _ _ _ _ :: _) _ _)); refine wpList_bslice1_st (o := ⟨some 20, .buildSlice _ _ _, _, _, _, _⟩) rfl _ _ rfl _ Try.underlying33 in_impl_Packet (by decide) (by decide) (x := .agg (List.toArray _)) rfl vcs rfx HS ?_; clear HS; intro w20 b20 hb20 HS)
            | ((with_reducible (show wpList _ _ _ (Oper.mk (some 20) (Op.buildSlice _ _ _) _ _ _ _ :: _) _ _)); refine wpList_bslice1_st (o := ⟨some 20, .buildSlice _ _ _, _, _, _, _⟩) rfl _ _ rfl _ Try.underlying33 in_impl_Packet (by decide) (by decide) (x := .agg _) rfl vcs rfx HS ?_; clear HS; intro w20 b20 hb20 HS)
            | ((with_reducible (show wpList _ _ _ (Oper.mk (some 21) (Op.call { callee := .builtin .append, args := _, argTypes := _ }) _ _ _ _ :: _) _ _)); refine wpList_appO_st (α := DtPacket) (el := (x_DstMac, x_SrcMac, x_Vlan, x_Tos, x_Id, x_Ttl, x_SrcIp, x_DstIp, (x_Seg_Kind, x_Seg_SrcPort, x_Seg_DstPort, x_Seg_Seq, x_Seg_Ack, x_Seg_Flags, x_Seg_Window, x_Seg_Body))) (o := ⟨some 21, .call { callee := .builtin .append, args := _, argTypes := _ }, _, _, _, _⟩) rfl _ _ _ _ rfl _ Try.underlying33 in_impl_Packet rfl rfl HS tk rfl (Src.row HS tk Try.underlying33 rfx rfx) rfl HOK.out mxl (by omega) ?_; clear HS; intro a21 c21 w21 hb21 HS))
      go_ret
      rw [← HD.out]
      exact HS.ret tk

set_option maxRecDepth 100000 in
set_option maxHeartbeats 4000000 in
theorem acceptedPacketsS_any (v1 v2 : Value) (xs : List Int) (l : List DtPacket) (mac : Int) (pr : Bool) (w : World) (k1 : Holds w xs [v1]) (k2 : Holds w l [v2]) (hl : l.length ≤ 1048576) :
    Calls Try.prog 15 #[.agg #[.int .i64 mac, .bool pr, v1], v2] w (RetSl w (accF mac pr xs l)) := by
  obtain ⟨AA, cap, rfl, z1, z2⟩ := k1.fl
  unfold maxLen at z2
  obtain ⟨BB, cap2, rfl, y1, y2⟩ := k2.fl
  unfold maxLen at y2
  have HS := St.start w
  go_enter Try.func15, Try.ntmps15
  go_wp2_with (first
        | ((with_reducible (show wpList _ _ _ (Oper.mk (some 2) (Op.box _ _) _ _ _ _ :: _) _ _)); refine wpList_box_st (o := ⟨some 2, .box _ _, _, _, _, _⟩) rfl _ _ rfl (v := .agg (List.toArray _)) rfl HS ?_; clear HS; intro w2 b2 hb2 HS; simp only [Value.cells] at HS)
        | ((with_reducible (show wpList _ _ _ (Oper.mk (some 2) (Op.box _ _) _ _ _ _ :: _) _ _)); refine wpList_box_st (o := ⟨some 2, .box _ _, _, _, _, _⟩) rfl _ _ rfl (v := .agg _) rfl HS ?_; clear HS; intro w2 b2 hb2 HS; simp only [Value.cells] at HS)
        | ((with_reducible (show wpList _ _ _ (Oper.mk (some 7) (Op.buildSlice _ _ _) _ _ _ _ :: _) _ _)); refine wpList_bslice0_st (o := ⟨some 7, .buildSlice _ _ _, _, _, _, _⟩) rfl _ rfl _ Try.underlying33 in_impl_Packet HS ?_; clear HS; intro w7 b7 hb7 HS; replace HS := HS.slotMade 16 tk; replace HS := HS.shut (α := DtPacket) (xs := []) tk rfl (fun _ h => by cases h))
        | ((with_reducible (show wpList _ _ _ (Oper.mk (some 24) (Op.load _ _) _ _ _ _ :: _) _ _)); refine wpList_loadH (o := ⟨some 24, .load _ _, _, _, _, _⟩) rfl _ _ rfl rfl HS (fun _ hs => k2.ex hs.ex) HK.out (by first | rfl | (simp; done) | omega) ag_impl_Packet rfl flt ?_)
        | ((with_reducible (show wpList _ _ _ (Oper.mk (some 25) (Op.buildSlice _ _ _) _ _ _ _ :: _) _ _)); refine wpList_bslice1_st (o := ⟨some 25, .buildSlice _ _ _, _, _, _, _⟩) rfl _ _ rfl _ Try.underlying33 in_impl_Packet (by decide) (by decide) (x := .agg (List.toArray _)) rfl vcs rfx HS ?_; clear HS; intro w25 b25 hb25 HS)
        | ((with_reducible (show wpList _ _ _ (Oper.mk (some 25) (Op.buildSlice _ _ _) _ _ _ _ :: _) _ _)); refine wpList_bslice1_st (o := ⟨some 25, .buildSlice _ _ _, _, _, _, _⟩) rfl _ _ rfl _ Try.underlying33 in_impl_Packet (by decide) (by decide) (x := .agg _) rfl vcs rfx HS ?_; clear HS; intro w25 b25 hb25 HS)
        | ((with_reducible (show wpList _ _ _ (Oper.mk (some 26) (Op.call { callee := .builtin .append, args := _, argTypes := _ }) _ _ _ _ :: _) _ _)); refine wpList_appO_st (α := DtPacket) (el := (x_DstMac, x_SrcMac, x_Vlan, x_Tos, x_Id, x_Ttl, x_SrcIp, x_DstIp, (x_Seg_Kind, x_Seg_SrcPort, x_Seg_DstPort, x_Seg_Seq, x_Seg_Ack, x_Seg_Flags, x_Seg_Window, x_Seg_Body))) (o := ⟨some 26, .call { callee := .builtin .append, args := _, argTypes := _ }, _, _, _, _⟩) rfl _ _ _ _ rfl _ Try.underlying33 in_impl_Packet rfl rfl HS tk rfl (Src.row HS tk Try.underlying33 rfx rfx) rfl HOK.out mxl (by omega) ?_; clear HS; intro a26 c26 w26 hb26 HS))
  go_loopw [5, 6] (fun ov i wr => ∃ (k : Nat) (out : List DtPacket) (A1 : Option Addr) (c1 : Nat), k ≤ l.length ∧ Hid (out = accF mac pr xs (l.take k)) ∧ i = .int .i64 (k : Int) ∧ ov = .slice A1 out.length c1 ∧ St w wr [rowA b2 [.int .i64 mac, .bool pr, .slice AA xs.length cap] 38, ownA out [.slice A1 out.length c1]]) (fun _ i _ => l.length - (intOf i).toNat)
  case atStart => exact ⟨0, [], _, _, Nat.zero_le _, hid rfl, rfl, rfl, (HS.arr (by repeat (first | exact Arr.nil | (with_reducible exact take_all _) | (refine Arr.cons tk ?_) | (refine arr_skip ?_))))⟩
  case round =>
    clear HS
    obtain ⟨k, out, A1, c1, hkl, HO, rfl, rfl, HS⟩ := hrel
    by_cases hlt : k < l.length
    case pos =>
      obtain ⟨b, off, rfl⟩ := k2.flA (by omega)
      have hol : out.length ≤ 1048576 := by rw [HO.out]; have := accF_len mac pr xs (l.take k); rw [List.length_take] at this; omega
      have HOK : Hid (Flat.ok l[k]) := hid (k2.flok (List.getElem_mem hlt))
      have HST := accF_step mac pr xs hlt
      rw [← HO.out] at HST
      have HK := hid (List.getElem?_eq_getElem hlt)
      generalize l[k] = x at *
      obtain ⟨x_DstMac, x_SrcMac, x_Vlan, x_Tos, x_Id, x_Ttl, x_SrcIp, x_DstIp, ⟨x_Seg_Kind, x_Seg_SrcPort, x_Seg_DstPort, x_Seg_Seq, x_Seg_Ack, x_Seg_Flags, x_Seg_Window, x_Seg_Body⟩⟩ := x
      cases hv : acceptsB mac pr xs x_DstMac x_Vlan
      case false =>
        have HO2 : Hid (out = accF mac pr xs (l.take (k + 1))) := hid (by rw [HST, if_neg (by show ¬ acceptsB mac pr xs x_DstMac x_Vlan = true; rw [hv]; decide)])
        have HV := hid hv
        clear hv HST
        go_wp2_with (first
              | (go_at_call 32; (with_reducible refine (acceptsS_any mac pr _ xs x_DstMac x_SrcMac x_Vlan x_Tos x_Id x_Ttl x_SrcIp x_DstIp x_Seg_Kind x_Seg_SrcPort x_Seg_DstPort x_Seg_Seq x_Seg_Ack x_Seg_Flags x_Seg_Window x_Seg_Body _ (k1.ex HS.ex)).mono ?_); rintro e w' ⟨rfl, hx⟩; rw [HV.out]; replace HS := HS.grow hx; clear hx)
              | ((with_reducible (show wpList _ _ _ (Oper.mk (some 2) (Op.box _ _) _ _ _ _ :: _) _ _)); refine wpList_box_st (o := ⟨some 2, .box _ _, _, _, _, _⟩) rfl _ _ rfl (v := .agg (List.toArray _)) rfl HS ?_; clear HS; intro w2 b2 hb2 HS; simp only [Value.cells] at HS)
              | ((with_reducible (show wpList _ _ _ (Oper.mk (some 2) (Op.box _ _) _ _ _ _ :: _) _ _)); refine wpList_box_st (o := ⟨some 2, .box _ _, _, _, _, _⟩) rfl _ _ rfl (v := .agg _) rfl HS ?_; clear HS; intro w2 b2 hb2 HS; simp only [Value.cells] at HS)
              | ((with_reducible (show wpList _ _ _ (Oper.mk (some 7) (Op.buildSlice _ _ _) _ _ _ _ :: _) _ _)); refine wpList_bslice0_st (o := ⟨some 7, .buildSlice _ _ _, _, _, _, _⟩) rfl _ rfl _ Try.underlying33 in_impl_Packet HS ?_; clear HS; intro w7 b7 hb7 HS; replace HS := HS.slotMade 16 tk; replace HS := HS.shut (α := DtPacket) (xs := []) tk rfl (fun _ h => by cases h))
              | ((with_reducible (show wpList _ _ _ (Oper.mk (some 24) (Op.load _ _) _ _ _ _ :: _) _ _)); refine wpList_loadH (o := ⟨some 24, .load _ _, _, _, _, _⟩) rfl _ _ rfl rfl HS (fun _ hs => k2.ex hs.ex) HK.out (by first | rfl | (simp; done) | omega) ag_impl_Packet rfl flt ?_)
              | ((with_reducible (show wpList _ _ _ (Oper.mk (some 25) (Op.buildSlice _ _ _) _ _ _ _ :: _) _ _)); refine wpList_bslice1_st (o := ⟨some 25, .buildSlice _ _ _, _, _, _, _⟩) rfl _ _ rfl _ Try.underlying33 in_impl_Packet (by decide) (by decide) (x := .agg (List.toArray _)) rfl vcs rfx HS ?_; clear HS; intro w25 b25 hb25 HS)
              | ((with_reducible (show wpList _ _ _ (Oper.mk (some 25) (Op.buildSlice _ _ _) _ _ _ _ :: _) _ _)); refine wpList_bslice1_st (o := ⟨some 25, .buildSlice _ _ _, _, _, _, _⟩) rfl _ _ rfl _ Try.underlying33 in_impl_Packet (by decide) (by decide) (x := .agg _) rfl vcs rfx HS ?_; clear HS; intro w25 b25 hb25 HS)
              | ((with_reducible (show wpList _ _ _ (Oper.mk (some 26) (Op.call { callee := .builtin .append, args := _, argTypes := _ }) _ _ _ _ :: _) _ _)); refine wpList_appO_st (α := DtPacket) (el := (x_DstMac, x_SrcMac, x_Vlan, x_Tos, x_Id, x_Ttl, x_SrcIp, x_DstIp, (x_Seg_Kind, x_Seg_SrcPort, x_Seg_DstPort, x_Seg_Seq, x_Seg_Ack, x_Seg_Flags, x_Seg_Window, x_Seg_Body))) (o := ⟨some 26, .call { callee := .builtin .append, args := _, argTypes := _ }, _, _, _, _⟩) rfl _ _ _ _ rfl _ Try.underlying33 in_impl_Packet rfl rfl HS tk rfl (Src.row HS tk Try.underlying33 rfx rfx) rfl HOK.out mxl (by omega) ?_; clear HS; intro a26 c26 w26 hb26 HS))
        refine wp_region_fl HS (take_all _) (.early 0 (.early 1 (.early 2 (.early 3 (.early 4 (.forced 5 2 .done)))))) [] (by kernel_rfl) (by as_aux_lemma => kernel_rfl) ?_
        intro hne
        clear HS
        try go_simp
        repeat' (first
          | (with_reducible refine wpF_forced ?_)
          | ((with_reducible ((show wpF _ _ _ _ _ (.early 0 _) _ _))); (first | (refine wpF_skipE rfl rfl ?_; (try go_simp)) | (refine wpF_early rfl rfl ?_; intro K hK; (first | ((refine quiet_loadA_st  _ _ rfl rfl tk ag_impl_Filter lit rfl ?_); (try go_simp)) | go_big_quiet_op); (first | go_big_quiet_on | (refine ⟨_, fun _ => rfl, ?_⟩; go_big_quiet_on)))))
          | ((with_reducible (first | (show wpF _ _ _ _ _ (.early 1 _) _ _) | (show wpF _ _ _ _ _ (.early 2 _) _ _) | (show wpF _ _ _ _ _ (.early 3 _) _ _))); (first | (refine wpF_skipE rfl rfl ?_; (try go_simp)) | (refine wpF_early rfl rfl ?_; intro K hK; (first | go_big_quiet_op); (first | go_big_quiet_on | (refine ⟨_, fun _ => rfl, ?_⟩; go_big_quiet_on)))))
          | ((with_reducible ((show wpF _ _ _ _ _ (.early 4 _) _ _))); (first | (refine wpF_skipE rfl rfl ?_; (try go_simp)) | (refine wpF_early rfl rfl ?_; intro K hK; (first | ((refine quiet_loadH  _ _ rfl rfl (fun _ hs => k2.ex hs.ex) HK.out (by first | rfl | (simp; done) | omega) ag_impl_Packet rfl flt ?_); (try go_simp)) | go_big_quiet_op); (first | go_big_quiet_on | (refine ⟨_, fun _ => rfl, ?_⟩; go_big_quiet_on)))))
          | ((with_reducible ((show OneF _ _ _ _ _ 5 2 _ _ _))); (first | (refine oneF_skip rfl rfl ?_; (try go_simp)) | (refine oneF_2 rfl rfl ?_; intro wq Fq HS K hK; go_simp; (first | (go_at_call 32; (with_reducible refine (acceptsS_any mac pr _ xs x_DstMac x_SrcMac x_Vlan x_Tos x_Id x_Ttl x_SrcIp x_DstIp x_Seg_Kind x_Seg_SrcPort x_Seg_DstPort x_Seg_Seq x_Seg_Ack x_Seg_Flags x_Seg_Window x_Seg_Body _ (k1.ex HS.ex)).mono ?_); rintro e w' ⟨rfl, hx⟩; rw [HV.out]; replace HS := HS.grow hx; clear hx)); (try go_simp); refine hK _ _ _ (HS.take tk) ?_; clear HS hK K)))
          | (with_reducible refine wpF_done ?_))
        intro w9 HS
        go_wp2_with (first
              | (go_at_call 32; (with_reducible refine (acceptsS_any mac pr _ xs x_DstMac x_SrcMac x_Vlan x_Tos x_Id x_Ttl x_SrcIp x_DstIp x_Seg_Kind x_Seg_SrcPort x_Seg_DstPort x_Seg_Seq x_Seg_Ack x_Seg_Flags x_Seg_Window x_Seg_Body _ (k1.ex HS.ex)).mono ?_); rintro e w' ⟨rfl, hx⟩; rw [HV.out]; replace HS := HS.grow hx; clear hx)
              | ((with_reducible (show wpList _ _ _ (Oper.mk (some 2) (Op.box _ _) _ _ _ _ :: _) _ _)); refine wpList_box_st (o := ⟨some 2, .box _ _, _, _, _, _⟩) rfl _ _ rfl (v := .agg (List.toArray _)) rfl HS ?_; clear HS; intro w2 b2 hb2 HS; simp only [Value.cells] at HS)
              | ((with_reducible (show wpList _ _ _ (Oper.mk (some 2) (Op.box _ _) _ _ _ _ :: _) _ _)); refine wpList_box_st (o := ⟨some 2, .box _ _, _, _, _, _⟩) rfl _ _ rfl (v := .agg _) rfl HS ?_; clear HS; intro w2 b2 hb2 HS; simp only [Value.cells] at HS)
              | ((with_reducible (show wpList _ _ _ (Oper.mk (some 7) (Op.buildSlice _ _ _) _ _ _ _ :: _) _ _)); refine wpList_bslice0_st (o := ⟨some 7, .buildSlice _ _ _, _, _, _, _⟩) rfl _ rfl _ Try.underlying33 in_impl_Packet HS ?_; clear HS; intro w7 b7 hb7 HS; replace HS := HS.slotMade 16 tk; replace HS := HS.shut (α := DtPacket) (xs := []) tk rfl (fun _ h => by cases h))
              | ((with_reducible (show wpList _ _ _ (Oper.mk (some 24) (Op.load _ _) _ _ _ _ :: _) _ _)); refine wpList_loadH (o := ⟨some 24, .load _ _, _, _, _, _⟩) rfl _ _ rfl rfl HS (fun _ hs => k2.ex hs.ex) HK.out (by first | rfl | (simp; done) | omega) ag_impl_Packet rfl flt ?_)
              | ((with_reducible (show wpList _ _ _ (Oper.mk (some 25) (Op.buildSlice _ _ _) _ _ _ _ :: _) _ _)); refine wpList_bslice1_st (o := ⟨some 25, .buildSlice _ _ _, _, _, _, _⟩) rfl _ _ rfl _ Try.underlying33 in_impl_Packet (by decide) (by decide) (x := .agg (List.toArray _)) rfl vcs rfx HS ?_; clear HS; intro w25 b25 hb25 HS)
              | ((with_reducible (show wpList _ _ _ (Oper.mk (some 25) (Op.buildSlice _ _ _) _ _ _ _ :: _) _ _)); refine wpList_bslice1_st (o := ⟨some 25, .buildSlice _ _ _, _, _, _, _⟩) rfl _ _ rfl _ Try.underlying33 in_impl_Packet (by decide) (by decide) (x := .agg _) rfl vcs rfx HS ?_; clear HS; intro w25 b25 hb25 HS)
              | ((with_reducible (show wpList _ _ _ (Oper.mk (some 26) (Op.call { callee := .builtin .append, args := _, argTypes := _ }) _ _ _ _ :: _) _ _)); refine wpList_appO_st (α := DtPacket) (el := (x_DstMac, x_SrcMac, x_Vlan, x_Tos, x_Id, x_Ttl, x_SrcIp, x_DstIp, (x_Seg_Kind, x_Seg_SrcPort, x_Seg_DstPort, x_Seg_Seq, x_Seg_Ack, x_Seg_Flags, x_Seg_Window, x_Seg_Body))) (o := ⟨some 26, .call { callee := .builtin .append, args := _, argTypes := _ }, _, _, _, _⟩) rfl _ _ _ _ rfl _ Try.underlying33 in_impl_Packet rfl rfl HS tk rfl (Src.row HS tk Try.underlying33 rfx rfx) rfl HOK.out mxl (by omega) ?_; clear HS; intro a26 c26 w26 hb26 HS))
        go_roundw
        case rel => exact ⟨k + 1, out, _, _, hlt, HO2, by go_num, rfl, (HS.arr (by repeat (first | exact Arr.nil | (with_reducible exact take_all _) | (refine Arr.cons tk ?_) | (refine arr_skip ?_))))⟩
        case measure => simp [intOf]; omega
      case true =>
        have HO2 : Hid (out ++ [((x_DstMac, x_SrcMac, x_Vlan, x_Tos, x_Id, x_Ttl, x_SrcIp, x_DstIp, (x_Seg_Kind, x_Seg_SrcPort, x_Seg_DstPort, x_Seg_Seq, x_Seg_Ack, x_Seg_Flags, x_Seg_Window, x_Seg_Body)) : DtPacket)] = accF mac pr xs (l.take (k + 1))) := hid (by rw [HST, if_pos (show acceptsB mac pr xs x_DstMac x_Vlan = true from hv)])
        have HV := hid hv
        clear hv HST
        go_wp2_with (first
              | (go_at_call 32; (with_reducible refine (acceptsS_any mac pr _ xs x_DstMac x_SrcMac x_Vlan x_Tos x_Id x_Ttl x_SrcIp x_DstIp x_Seg_Kind x_Seg_SrcPort x_Seg_DstPort x_Seg_Seq x_Seg_Ack x_Seg_Flags x_Seg_Window x_Seg_Body _ (k1.ex HS.ex)).mono ?_); rintro e w' ⟨rfl, hx⟩; rw [HV.out]; replace HS := HS.grow hx; clear hx)
              | ((with_reducible (show wpList _ _ _ (Oper.mk (some 2) (Op.box _ _) _ _ _ _ :: _) _ _)); refine wpList_box_st (o := ⟨some 2, .box _ _, _, _, _, _⟩) rfl _ _ rfl (v := .agg (List.toArray _)) rfl HS ?_; clear HS; intro w2 b2 hb2 HS; simp only [Value.cells] at HS)
              | ((with_reducible (show wpList _ _ _ (Oper.mk (some 2) (Op.box _ _) _ _ _ _ :: _) _ _)); refine wpList_box_st (o := ⟨some 2, .box _ _, _, _, _, _⟩) rfl _ _ rfl (v := .agg _) rfl HS ?_; clear HS; intro w2 b2 hb2 HS; simp only [Value.cells] at HS)
              | ((with_reducible (show wpList _ _ _ (Oper.mk (some 7) (Op.buildSlice _ _ _) _ _ _ _ :: _) _ _)); refine wpList_bslice0_st (o := ⟨some 7, .buildSlice _ _ _, _, _, _, _⟩) rfl _ rfl _ Try.underlying33 in_impl_Packet HS ?_; clear HS; intro w7 b7 hb7 HS; replace HS := HS.slotMade 16 tk; replace HS := HS.shut (α := DtPacket) (xs := []) tk rfl (fun _ h => by cases h))
              | ((with_reducible (show wpList _ _ _ (Oper.mk (some 24) (Op.load _ _) _ _ _ _ :: _) _ _)); refine wpList_loadH (o := ⟨some 24, .load _ _, _, _, _, _⟩) rfl _ _ rfl rfl HS (fun _ hs => k2.ex hs.ex) HK.out (by first | rfl | (simp; done) | omega) ag_impl_Packet rfl flt ?_)
              | ((with_reducible (show wpList _ _ _ (Oper.mk (some 25) (Op.buildSlice _ _ _) _ _ _ _ :: _) _ _)); refine wpList_bslice1_st (o := ⟨some 25, .buildSlice _ _ _, _, _, _, _⟩) rfl _ _ rfl _ Try.underlying33 in_impl_Packet (by decide) (by decide) (x := .agg (List.toArray _)) rfl vcs rfx HS ?_; clear HS; intro w25 b25 hb25 HS)
              | ((with_reducible (show wpList _ _ _ (Oper.mk (some 25) (Op.buildSlice _ _ _) _ _ _ _ :: _) _ _)); refine wpList_bslice1_st (o := ⟨some 25, .buildSlice _ _ _, _, _, _, _⟩) rfl _ _ rfl _ Try.underlying33 in_impl_Packet (by decide) (by decide) (x := .agg _) rfl vcs rfx HS ?_; clear HS; intro w25 b25 hb25 HS)
              | ((with_reducible (show wpList _ _ _ (Oper.mk (some 26) (Op.call { callee := .builtin .append, args := _, argTypes := _ }) _ _ _ _ :: _) _ _)); refine wpList_appO_st (α := DtPacket) (el := (x_DstMac, x_SrcMac, x_Vlan, x_Tos, x_Id, x_Ttl, x_SrcIp, x_DstIp, (x_Seg_Kind, x_Seg_SrcPort, x_Seg_DstPort, x_Seg_Seq, x_Seg_Ack, x_Seg_Flags, x_Seg_Window, x_Seg_Body))) (o := ⟨some 26, .call { callee := .builtin .append, args := _, argTypes := _ }, _, _, _, _⟩) rfl _ _ _ _ rfl _ Try.underlying33 in_impl_Packet rfl rfl HS tk rfl (Src.row HS tk Try.underlying33 rfx rfx) rfl HOK.out mxl (by omega) ?_; clear HS; intro a26 c26 w26 hb26 HS))
        refine wp_region_fl HS (take_all _) (.early 0 (.early 1 (.early 2 (.early 3 (.early 4 (.forced 5 2 .done)))))) [] (by kernel_rfl) (by as_aux_lemma => kernel_rfl) ?_
        intro hne
        clear HS
        try go_simp
        repeat' (first
          | (with_reducible refine wpF_forced ?_)
          | ((with_reducible ((show wpF _ _ _ _ _ (.early 0 _) _ _))); (first | (refine wpF_skipE rfl rfl ?_; (try go_simp)) | (refine wpF_early rfl rfl ?_; intro K hK; (first | ((refine quiet_loadA_st  _ _ rfl rfl tk ag_impl_Filter lit rfl ?_); (try go_simp)) | go_big_quiet_op); (first | go_big_quiet_on | (refine ⟨_, fun _ => rfl, ?_⟩; go_big_quiet_on)))))
          | ((with_reducible (first | (show wpF _ _ _ _ _ (.early 1 _) _ _) | (show wpF _ _ _ _ _ (.early 2 _) _ _) | (show wpF _ _ _ _ _ (.early 3 _) _ _))); (first | (refine wpF_skipE rfl rfl ?_; (try go_simp)) | (refine wpF_early rfl rfl ?_; intro K hK; (first | go_big_quiet_op); (first | go_big_quiet_on | (refine ⟨_, fun _ => rfl, ?_⟩; go_big_quiet_on)))))
          | ((with_reducible ((show wpF _ _ _ _ _ (.early 4 _) _ _))); (first | (refine wpF_skipE rfl rfl ?_; (try go_simp)) | (refine wpF_early rfl rfl ?_; intro K hK; (first | ((refine quiet_loadH  _ _ rfl rfl (fun _ hs => k2.ex hs.ex) HK.out (by first | rfl | (simp; done) | omega) ag_impl_Packet rfl flt ?_); (try go_simp)) | go_big_quiet_op); (first | go_big_quiet_on | (refine ⟨_, fun _ => rfl, ?_⟩; go_big_quiet_on)))))
          | ((with_reducible ((show OneF _ _ _ _ _ 5 2 _ _ _))); (first | (refine oneF_skip rfl rfl ?_; (try go_simp)) | (refine oneF_2 rfl rfl ?_; intro wq Fq HS K hK; go_simp; (first | (go_at_call 32; (with_reducible refine (acceptsS_any mac pr _ xs x_DstMac x_SrcMac x_Vlan x_Tos x_Id x_Ttl x_SrcIp x_DstIp x_Seg_Kind x_Seg_SrcPort x_Seg_DstPort x_Seg_Seq x_Seg_Ack x_Seg_Flags x_Seg_Window x_Seg_Body _ (k1.ex HS.ex)).mono ?_); rintro e w' ⟨rfl, hx⟩; rw [HV.out]; replace HS := HS.grow hx; clear hx)); (try go_simp); refine hK _ _ _ (HS.take tk) ?_; clear HS hK K)))
          | (with_reducible refine wpF_done ?_))
        intro w9 HS
        go_wp2_with (first
              | (go_at_call 32; (with_reducible refine (acceptsS_any mac pr _ xs x_DstMac x_SrcMac x_Vlan x_Tos x_Id x_Ttl x_SrcIp x_DstIp x_Seg_Kind x_Seg_SrcPort x_Seg_DstPort x_Seg_Seq x_Seg_Ack x_Seg_Flags x_Seg_Window x_Seg_Body _ (k1.ex HS.ex)).mono ?_); rintro e w' ⟨rfl, hx⟩; rw [HV.out]; replace HS := HS.grow hx; clear hx)
              | ((with_reducible (show wpList _ _ _ (Oper.mk (some 2) (Op.box _ _) _ _ _ _ :: _) _ _)); refine wpList_box_st (o := ⟨some 2, .box _ _, _, _, _, _⟩) rfl _ _ rfl (v := .agg (List.toArray _)) rfl HS ?_; clear HS; intro w2 b2 hb2 HS; simp only [Value.cells] at HS)
              | ((with_reducible (show wpList _ _ _ (Oper.mk (some 2) (Op.box _ _) _ _ _ _ :: _) _ _)); refine wpList_box_st (o := ⟨some 2, .box _ _, _, _, _, _⟩) rfl _ _ rfl (v := .agg _) rfl HS ?_; clear HS; intro w2 b2 hb2 HS; simp only [Value.cells] at HS)
              | ((with_reducible (show wpList _ _ _ (Oper.mk (some 7) (Op.buildSlice _ _ _) _ _ _ _ :: _) _ _)); refine wpList_bslice0_st (o := ⟨some 7, .buildSlice _ _ _, _, _, _, _⟩) rfl _ rfl _ Try.underlying33 in_impl_Packet HS ?_; clear HS; intro w7 b7 hb7 HS; replace HS := HS.slotMade 16 tk; replace HS := HS.shut (α := DtPacket) (xs := []) tk rfl (fun _ h => by cases h))
              | ((with_reducible (show wpList _ _ _ (Oper.mk (some 24) (Op.load _ _) _ _ _ _ :: _) _ _)); refine wpList_loadH (o := ⟨some 24, .load _ _, _, _, _, _⟩) rfl _ _ rfl rfl HS (fun _ hs => k2.ex hs.ex) HK.out (by first | rfl | (simp; done) | omega) ag_impl_Packet rfl flt ?_)
              | ((with_reducible (show wpList _ _ _ (Oper.mk (some 25) (Op.buildSlice _ _ _) _ _ _ _ :: _) _ _)); refine wpList_bslice1_st (o := ⟨some 25, .buildSlice _ _ _, _, _, _, _⟩) rfl _ _ rfl _ Try.underlying33 in_impl_Packet (by decide) (by decide) (x := .agg (List.toArray _)) rfl vcs rfx HS ?_; clear HS; intro w25 b25 hb25 HS)
              | ((with_reducible (show wpList _ _ _ (Oper.mk (some 25) (Op.buildSlice _ _ _) _ _ _ _ :: _) _ _)); refine wpList_bslice1_st (o := ⟨some 25, .buildSlice _ _ _, _, _, _, _⟩) rfl _ _ rfl _ Try.underlying33 in_impl_Packet (by decide) (by decide) (x := .agg _) rfl vcs rfx HS ?_; clear HS; intro w25 b25 hb25 HS)
              | ((with_reducible (show wpList _ _ _ (Oper.mk (some 26) (Op.call { callee := .builtin .append, args := _, argTypes := _ }) _ _ _ _ :: _) _ _)); refine wpList_appO_st (α := DtPacket) (el := (x_DstMac, x_SrcMac, x_Vlan, x_Tos, x_Id, x_Ttl, x_SrcIp, x_DstIp, (x_Seg_Kind, x_Seg_SrcPort, x_Seg_DstPort, x_Seg_Seq, x_Seg_Ack, x_Seg_Flags, x_Seg_Window, x_Seg_Body))) (o := ⟨some 26, .call { callee := .builtin .append, args := _, argTypes := _ }, _, _, _, _⟩) rfl _ _ _ _ rfl _ Try.underlying33 in_impl_Packet rfl rfl HS tk rfl (Src.row HS tk Try.underlying33 rfx rfx) rfl HOK.out mxl (by omega) ?_; clear HS; intro a26 c26 w26 hb26 HS))
        go_roundw
        case rel => exact ⟨k + 1, out ++ [((x_DstMac, x_SrcMac, x_Vlan, x_Tos, x_Id, x_Ttl, x_SrcIp, x_DstIp, (x_Seg_Kind, x_Seg_SrcPort, x_Seg_DstPort, x_Seg_Seq, x_Seg_Ack, x_Seg_Flags, x_Seg_Window, x_Seg_Body)) : DtPacket)], _, _, hlt, HO2, by go_num, by rw [List.length_append]; rfl, by rw [List.length_append]; exact (HS.arr (by repeat (first | exact Arr.nil | (with_reducible exact take_all _) | (refine Arr.cons tk ?_) | (refine arr_skip ?_))))⟩
        case measure => simp [intOf]; omega
    case neg =>
      have HD : Hid (out = accF mac pr xs l) := hid (by rw [HO.out, List.take_of_length_le (by omega)])
      go_wp2_with (first
            | ((with_reducible (show wpList _ _ _ (Oper.mk (some 2) (Op.box _ _) _ _ _ _ :: _) _ _)); refine wpList_box_st (o := ⟨some 2, .box _ _, _, _, _, _⟩) rfl _ _ rfl (v := .agg (List.toArray _)) rfl HS ?_; clear HS; intro w2 b2 hb2 HS; simp only [Value.cells] at HS)
            | ((with_reducible (show wpList _ _ _ (Oper.mk (some 2) (Op.box _ _) _ _ _ _ :: _) _ _)); refine wpList_box_st (o := ⟨some 2, .box _ _, _, _, _, _⟩) rfl _ _ rfl (v := .agg _) rfl HS ?_; clear HS; intro w2 b2 hb2 HS; simp only [Value.cells] at HS)
            | ((with_reducible (show wpList _ _ _ (Oper.mk (some 7) (Op.buildSlice _ _ _) _ _ _ _ :: _) _ _)); refine wpList_bslice0_st (o := ⟨some 7, .buildSlice _ _ _, _, _, _, _⟩) rfl _ rfl _ Try.underlying33 in_impl_Packet HS ?_; clear HS; intro w7 b7 hb7 HS; replace HS := HS.slotMade 16 tk; replace HS := HS.shut (α := DtPacket) (xs := []) tk rfl (fun _ h => by cases h))
            | ((with_reducible (show wpList _ _ _ (Oper.mk (some 24) (Op.load _ _) _ _ _ _ :: _) _ _)); refine wpList_loadH (o := ⟨some 24, .load _ _, _, _, _, _⟩) rfl _ _ rfl rfl HS (fun _ hs => k2.ex hs.ex) HK.out (by first | rfl | (simp; done) | omega) ag_impl_Packet rfl flt ?_)
            | ((with_reducible (show wpList _ _ _ (Oper.mk (some 25) (Op.buildSlice _ _ _) _ _ _ _ :: _) _ _)); refine wpList_bslice1_st (o := ⟨some 25, .buildSlice _ _ _, _, _, _, _⟩) rfl _ _ rfl _ Try.underlying33 in_impl_Packet (by decide) (by decide) (x := .agg (List.toArray _)) rfl vcs rfx HS ?_; clear HS; intro w25 b25 hb25 HS)
            | ((with_reducible (show wpList _ _ _ (Oper.mk (some 25) (Op.buildSlice _ _ _) _ _ _ _ :: _) _ _)); refine wpList_bslice1_st (o := ⟨some 25, .buildSlice _ _ _, _, _, _, _⟩) rfl _ _ rfl _ Try.underlying33 in_impl_Packet (by decide) (by decide) (x := .agg _) rfl vcs rfx HS ?_; clear HS; intro w25 b25 hb25 HS)
            | ((with_reducible (show wpList _ _ _ (Oper.mk (some 26) (Op.call { callee := .builtin .append, args := _, argTypes := _ }) _ _ _ _ :: _) _ _)); refine wpList_appO_st (α := DtPacket) (el := (x_DstMac, x_SrcMac, x_Vlan, x_Tos, x_Id, x_Ttl, x_SrcIp, x_DstIp, (x_Seg_Kind, x_Seg_SrcPort, x_Seg_DstPort, x_Seg_Seq, x_Seg_Ack, x_Seg_Flags, x_Seg_Window, x_Seg_Body))) (o := ⟨some 26, .call { callee := .builtin .append, args := _, argTypes := _ }, _, _, _, _⟩) rfl _ _ _ _ rfl _ Try.underlying33 in_impl_Packet rfl rfl HS tk rfl (Src.row HS tk Try.underlying33 rfx rfx) rfl HOK.out mxl (by omega) ?_; clear HS; intro a26 c26 w26 hb26 HS))
      go_ret
      rw [← HD.out]
      exact HS.ret tk

end Go.Proofs.Ytihgekgkonacfaa
