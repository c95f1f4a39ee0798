/- The statement Rows.FnExactRxOkSaid is proved: whatever the input, the call of laws.FnExactRxOk returns true and leaves its arguments as they were. No condition. -/
import Derived.Test.YtlpipllhbobfbaaRep
import Derived.Test.YtlpipllhbobfbaaRx5
namespace Go.Proofs.Ytlpipllhbobfbaa.lawFnExactRxOk
open Go.ChangeShapes Go.WideShapes Go.ChangeAt Go.RowKit
open Go.ChangeMaps (open_string shut_string)
set_option linter.unusedVariables false

theorem own : ownKnob Try.prog.godebug = none := by kernel_rfl
theorem laidOut : laidOutB Try.prog = true := by kernel_rfl
theorem opens_int : Opens Try.prog 3 (Int) := Opens.int Try.underlying3 (by kernel_rfl)
theorem opens_Ring : Opens Try.prog 89 (Int × Int × Int × Int) := Opens.struct Try.underlying89 (by kernel_rfl) (.cons rfl opens_int (.cons rfl opens_int (.cons rfl opens_int (.one rfl opens_int))))
theorem opens_CompletionQueue : Opens Try.prog 91 (Int × Int × Int) := Opens.struct Try.underlying91 (by kernel_rfl) (.cons rfl opens_int (.cons rfl opens_int (.one rfl opens_int)))
theorem opens_string : Opens Try.prog 9 (ByteArray) := Opens.string Try.underlying9 (by kernel_rfl)
theorem opens_Segment : Opens Try.prog 52 (Int × Int × Int × Int × Int × Int × Int × ByteArray) := Opens.struct Try.underlying52 (by kernel_rfl) (.cons rfl opens_int (.cons rfl opens_int (.cons rfl opens_int (.cons rfl opens_int (.cons rfl opens_int (.cons rfl opens_int (.cons rfl opens_int (.one rfl opens_string))))))))
theorem opens_Packet : Opens Try.prog 54 (Int × Int × Int × Int × Int × Int × Int × Int × (Int × Int × Int × Int × Int × Int × Int × ByteArray)) := Opens.struct Try.underlying54 (by kernel_rfl) (.cons rfl opens_int (.cons rfl opens_int (.cons rfl opens_int (.cons rfl opens_int (.cons rfl opens_int (.cons rfl opens_int (.cons rfl opens_int (.cons rfl opens_int (.one rfl opens_Segment)))))))))
theorem opens_Super : Opens Try.prog 93 ((Int × Int × Int × Int × Int × Int × Int × Int × (Int × Int × Int × Int × Int × Int × Int × ByteArray)) × Int × Int) := Opens.struct Try.underlying93 (by kernel_rfl) (.cons rfl opens_Packet (.cons rfl opens_int (.one rfl opens_int)))
theorem opens_bool : Opens Try.prog 4 (Bool) := Opens.bool Try.underlying4 (by kernel_rfl)
theorem opens_RxQueue : Opens Try.prog 95 ((Int × Int × Int × Int) × (Int × Int × Int) × (Int × Int × Int) × ((Int × Int × Int × Int × Int × Int × Int × Int × (Int × Int × Int × Int × Int × Int × Int × ByteArray)) × Int × Int) × Bool × Int) := Opens.struct Try.underlying95 (by kernel_rfl) (.cons rfl opens_Ring (.cons rfl opens_CompletionQueue (.cons rfl opens_CompletionQueue (.cons rfl opens_Super (.cons rfl opens_bool (.one rfl opens_int))))))

set_option maxRecDepth 100000 in
theorem lifted (os : Os) (started : os.Started) (H : Type) (enc : TypeId × Value → H) :
    ReturnsInHanded {} Try.checked os 14 .any (Rows.fnExactRxOkSpec.pre6 enc Try.prog Try.f14 Rows.fnExactRxOkRow.domain false) (Rows.fnExactRxOkSpec.post enc Try.prog Try.f14 false true false false) := by
  refine returnsInHanded_of_change (C := Try.checked) own started (by kernel_rfl) Try.func14
    (ChangeSpec.witness6 (enc := enc) (C := Try.checked) false ⟨#[], #[.agg #[.int .i64 0, .int .i64 0, .int .i64 0, .int .i64 0, .int .i64 0, .int .i64 0, .int .i64 0, .int .i64 0, .int .i64 0, .int .i64 0, .int .i64 0, .int .i64 0, .int .i64 0, .int .i64 0, .int .i64 0, .int .i64 0, .int .i64 0, .int .i64 0, .int .i64 0, .int .i64 0, .int .i64 0, .int .i64 0, .int .i64 0, .int .i64 0, .int .i64 0, .string ⟨#[]⟩, .int .i64 0, .int .i64 0, .bool false, .int .i64 0]], []⟩ 8 (by kernel_rfl) (by kernel_rfl) (by kernel_rfl) (by kernel_rfl)) ?_
  intro W base args ds gs before hval0 hW hcnd _
  have hval : ∀ (j : Nat) t v, Try.f14.params[j]? = some t → args[j]? = some v → Value.okWide Try.prog W .any base t v := hval0
  have hW' := hW
  obtain ⟨p, q, hA0, hV, rfl, hfz, hnd⟩ := hW
  have hA : DataW.TrodAll enc Try.prog W 0 (fun _ => true) true Try.f14.params.toList args.toList ds p := hA0
  rw [Try.params14] at hA hval
  obtain ⟨v0, vs0, d0, ds0, p0, q0, hargs, rfl, rfl, h0, r0⟩ := trodAll_cons hA
  obtain ⟨rfl, rfl, rfl⟩ := trodAll_nil r0
  obtain rfl : args = #[v0] := by cases args; simp_all
  obtain ⟨rfl, rfl⟩ := trodVars_none hV
  have lt0 : ∀ x ∈ p0, x.block < W.heap.size := by obtain ⟨m, hm⟩ := h0; exact DataW.trod_lt m _ _ _ hm
  obtain ⟨cs0, rfl, hz0⟩ := okWide_struct Try.underlying95 (hval 0 _ v0 rfl rfl)
  obtain ⟨⟨⟨aQ_Ring_Base, aQ_Ring_Size, aQ_Ring_Head, aQ_Ring_Tail⟩, ⟨aQ_Device_Base, aQ_Device_Size, aQ_Device_Count⟩, ⟨aQ_Driver_Base, aQ_Driver_Size, aQ_Driver_Count⟩, ⟨⟨aQ_Held_Packet_DstMac, aQ_Held_Packet_SrcMac, aQ_Held_Packet_Vlan, aQ_Held_Packet_Tos, aQ_Held_Packet_Id, aQ_Held_Packet_Ttl, aQ_Held_Packet_SrcIp, aQ_Held_Packet_DstIp, ⟨aQ_Held_Packet_Seg_Kind, aQ_Held_Packet_Seg_SrcPort, aQ_Held_Packet_Seg_DstPort, aQ_Held_Packet_Seg_Seq, aQ_Held_Packet_Seg_Ack, aQ_Held_Packet_Seg_Flags, aQ_Held_Packet_Seg_Window, aQ_Held_Packet_Seg_Body⟩⟩, aQ_Held_Size, aQ_Held_Count⟩, aQ_Holding, aQ_Dropped⟩, b0, t0⟩ : ∃ x : (Int × Int × Int × Int) × (Int × Int × Int) × (Int × Int × Int) × ((Int × Int × Int × Int × Int × Int × Int × Int × (Int × Int × Int × Int × Int × Int × Int × ByteArray)) × Int × Int) × Bool × Int, Holds W x (Value.cells (.agg cs0)).toList := by obtain ⟨m, hm⟩ := h0; exact opens_RxQueue.2 enc W 0 true m _ _ hm
  have k0 : ∃ vs, vs = cs0.toList := ⟨_, rfl⟩
  obtain ⟨vs0, k0⟩ := k0
  simp only [Value.cells] at t0
  rw [← k0] at t0
  obtain ⟨_, _, _, _, rfl, _, ⟨_, _, _, _, rfl, _, ⟨rfl, _, haQ_Ring_Base⟩, ⟨_, _, _, _, rfl, _, ⟨rfl, _, haQ_Ring_Size⟩, ⟨_, _, _, _, rfl, _, ⟨rfl, _, haQ_Ring_Head⟩, ⟨rfl, _, haQ_Ring_Tail⟩⟩⟩⟩, ⟨_, _, _, _, rfl, _, ⟨_, _, _, _, rfl, _, ⟨rfl, _, haQ_Device_Base⟩, ⟨_, _, _, _, rfl, _, ⟨rfl, _, haQ_Device_Size⟩, ⟨rfl, _, haQ_Device_Count⟩⟩⟩, ⟨_, _, _, _, rfl, _, ⟨_, _, _, _, rfl, _, ⟨rfl, _, haQ_Driver_Base⟩, ⟨_, _, _, _, rfl, _, ⟨rfl, _, haQ_Driver_Size⟩, ⟨rfl, _, haQ_Driver_Count⟩⟩⟩, ⟨_, _, _, _, rfl, _, ⟨_, _, _, _, rfl, _, ⟨_, _, _, _, rfl, _, ⟨rfl, _, haQ_Held_Packet_DstMac⟩, ⟨_, _, _, _, rfl, _, ⟨rfl, _, haQ_Held_Packet_SrcMac⟩, ⟨_, _, _, _, rfl, _, ⟨rfl, _, haQ_Held_Packet_Vlan⟩, ⟨_, _, _, _, rfl, _, ⟨rfl, _, haQ_Held_Packet_Tos⟩, ⟨_, _, _, _, rfl, _, ⟨rfl, _, haQ_Held_Packet_Id⟩, ⟨_, _, _, _, rfl, _, ⟨rfl, _, haQ_Held_Packet_Ttl⟩, ⟨_, _, _, _, rfl, _, ⟨rfl, _, haQ_Held_Packet_SrcIp⟩, ⟨_, _, _, _, rfl, _, ⟨rfl, _, haQ_Held_Packet_DstIp⟩, ⟨_, _, _, _, rfl, _, ⟨rfl, _, haQ_Held_Packet_Seg_Kind⟩, ⟨_, _, _, _, rfl, _, ⟨rfl, _, haQ_Held_Packet_Seg_SrcPort⟩, ⟨_, _, _, _, rfl, _, ⟨rfl, _, haQ_Held_Packet_Seg_DstPort⟩, ⟨_, _, _, _, rfl, _, ⟨rfl, _, haQ_Held_Packet_Seg_Seq⟩, ⟨_, _, _, _, rfl, _, ⟨rfl, _, haQ_Held_Packet_Seg_Ack⟩, ⟨_, _, _, _, rfl, _, ⟨rfl, _, haQ_Held_Packet_Seg_Flags⟩, ⟨_, _, _, _, rfl, _, ⟨rfl, _, haQ_Held_Packet_Seg_Window⟩, ⟨rfl, _, haQ_Held_Packet_Seg_Body⟩⟩⟩⟩⟩⟩⟩⟩⟩⟩⟩⟩⟩⟩⟩⟩, ⟨_, _, _, _, rfl, _, ⟨rfl, _, haQ_Held_Size⟩, ⟨rfl, _, haQ_Held_Count⟩⟩⟩, ⟨_, _, _, _, rfl, _, ⟨rfl, _⟩, ⟨rfl, _, haQ_Dropped⟩⟩⟩⟩⟩⟩ := t0
  obtain rfl : cs0 = #[.int .i64 aQ_Ring_Base, .int .i64 aQ_Ring_Size, .int .i64 aQ_Ring_Head, .int .i64 aQ_Ring_Tail, .int .i64 aQ_Device_Base, .int .i64 aQ_Device_Size, .int .i64 aQ_Device_Count, .int .i64 aQ_Driver_Base, .int .i64 aQ_Driver_Size, .int .i64 aQ_Driver_Count, .int .i64 aQ_Held_Packet_DstMac, .int .i64 aQ_Held_Packet_SrcMac, .int .i64 aQ_Held_Packet_Vlan, .int .i64 aQ_Held_Packet_Tos, .int .i64 aQ_Held_Packet_Id, .int .i64 aQ_Held_Packet_Ttl, .int .i64 aQ_Held_Packet_SrcIp, .int .i64 aQ_Held_Packet_DstIp, .int .i64 aQ_Held_Packet_Seg_Kind, .int .i64 aQ_Held_Packet_Seg_SrcPort, .int .i64 aQ_Held_Packet_Seg_DstPort, .int .i64 aQ_Held_Packet_Seg_Seq, .int .i64 aQ_Held_Packet_Seg_Ack, .int .i64 aQ_Held_Packet_Seg_Flags, .int .i64 aQ_Held_Packet_Seg_Window, .string aQ_Held_Packet_Seg_Body, .int .i64 aQ_Held_Size, .int .i64 aQ_Held_Count, .bool aQ_Holding, .int .i64 aQ_Dropped] := by cases cs0; simp_all
  clear hA0 hval0
  refine (walk_FnExactRxOk W aQ_Ring_Base haQ_Ring_Base aQ_Ring_Size haQ_Ring_Size aQ_Ring_Head haQ_Ring_Head aQ_Ring_Tail haQ_Ring_Tail aQ_Device_Base haQ_Device_Base aQ_Device_Size haQ_Device_Size aQ_Device_Count haQ_Device_Count aQ_Driver_Base haQ_Driver_Base aQ_Driver_Size haQ_Driver_Size aQ_Driver_Count haQ_Driver_Count aQ_Held_Packet_DstMac haQ_Held_Packet_DstMac aQ_Held_Packet_SrcMac haQ_Held_Packet_SrcMac aQ_Held_Packet_Vlan haQ_Held_Packet_Vlan aQ_Held_Packet_Tos haQ_Held_Packet_Tos aQ_Held_Packet_Id haQ_Held_Packet_Id aQ_Held_Packet_Ttl haQ_Held_Packet_Ttl aQ_Held_Packet_SrcIp haQ_Held_Packet_SrcIp aQ_Held_Packet_DstIp haQ_Held_Packet_DstIp aQ_Held_Packet_Seg_Kind haQ_Held_Packet_Seg_Kind aQ_Held_Packet_Seg_SrcPort haQ_Held_Packet_Seg_SrcPort aQ_Held_Packet_Seg_DstPort haQ_Held_Packet_Seg_DstPort aQ_Held_Packet_Seg_Seq haQ_Held_Packet_Seg_Seq aQ_Held_Packet_Seg_Ack haQ_Held_Packet_Seg_Ack aQ_Held_Packet_Seg_Flags haQ_Held_Packet_Seg_Flags aQ_Held_Packet_Seg_Window haQ_Held_Packet_Seg_Window aQ_Held_Packet_Seg_Body haQ_Held_Packet_Seg_Body aQ_Held_Size haQ_Held_Size aQ_Held_Count haQ_Held_Count aQ_Holding aQ_Dropped haQ_Dropped).mono fun e W' ⟨he, hx⟩ => ?_
  subst he
  have bel := hx.below
  exact ⟨_, rfl, _, _, _, [], _, [], hW', trodAll_mk1 (shut_bool Try.underlying4 _), (trodAll_cons_mk (Below.trod laidOut (by kernel_rfl) (of_decide_eq_true (by kernel_rfl)) h0 bel lt0) trodAll_mk0), rfl, bel.frame _, fun h => by cases h⟩

theorem over : Rows.fnExactRxOkRow.holds Try.pinned (OpenSpec.ofChange Rows.fnExactRxOkSpec) :=
  OpenClaim.holds_of_wide 14 Try.f14 rfl rfl rfl rfl rfl rfl rfl ⟨rfl, rfl, rfl, rfl, rfl⟩ rfl rfl rfl rfl rfl (by kernel_rfl) Try.func14 (by kernel_rfl)
    (of_decide_eq_true (by kernel_rfl)) (by unfold Func.isWrapper; first | (rw [if_pos (by decide +kernel)]; kernel_rfl) | (rw [if_neg (by decide +kernel)]; exact ⟨rfl, rfl⟩))
    (fun os started H enc _ => lifted os started H enc)

theorem proved : Rows.FnExactRxOkSaid := over
end Go.Proofs.Ytlpipllhbobfbaa.lawFnExactRxOk
