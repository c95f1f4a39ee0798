/- The statement Rows.FnExactHasCompletionSaid is proved: whatever the input, the call of laws.FnExactHasCompletion returns true and leaves its arguments as they were. No condition. -/
import Derived.Test.YtelkplponnfkpaaRep
import Derived.Test.YtelkplponnfkpaaHasL
namespace Go.Proofs.Ytelkplponnfkpaa.lawFnExactHasCompletion
open Go.ChangeShapes Go.WideShapes Go.ChangeAt Go.RowKit
open Go.ChangeMaps (open_string shut_string)
set_option linter.unusedVariables false

theorem own : ownKnob Try.prog.godebug = none := by kernel_rfl
theorem laidOut : laidOutB Try.prog = true := by kernel_rfl
theorem opens_int : Opens Try.prog 3 (Int) := Opens.int Try.underlying3 (by kernel_rfl)
theorem opens_bool : Opens Try.prog 4 (Bool) := Opens.bool Try.underlying4 (by kernel_rfl)
theorem opens_Mapping : Opens Try.prog 123 (Int × Int × Int × Bool) := Opens.struct Try.underlying123 (by kernel_rfl) (.cons rfl opens_int (.cons rfl opens_int (.cons rfl opens_int (.one rfl opens_bool))))
theorem opens_SMapping : Opens Try.prog 45 (List (Int × Int × Int × Bool)) := Opens.slice Try.underlying45 (by kernel_rfl) opens_Mapping
theorem opens_string : Opens Try.prog 9 (ByteArray) := Opens.string Try.underlying9 (by kernel_rfl)
theorem opens_Sstring : Opens Try.prog 25 (List ByteArray) := Opens.slice Try.underlying25 (by kernel_rfl) opens_string
theorem opens_Memory : Opens Try.prog 46 (List ByteArray) := Opens.struct Try.underlying46 (by kernel_rfl) (.one rfl opens_Sstring)
theorem opens_Ring : Opens Try.prog 63 (Int × Int × Int × Int) := Opens.struct Try.underlying63 (by kernel_rfl) (.cons rfl opens_int (.cons rfl opens_int (.cons rfl opens_int (.one rfl opens_int))))
theorem opens_CompletionQueue : Opens Try.prog 47 (Int × Int × Int) := Opens.struct Try.underlying47 (by kernel_rfl) (.cons rfl opens_int (.cons rfl opens_int (.one rfl opens_int)))
theorem opens_Segment : Opens Try.prog 65 (Int × Int × Int × Int × Int × Int × Int × ByteArray) := Opens.struct Try.underlying65 (by kernel_rfl) (.cons rfl opens_int (.cons rfl opens_int (.cons rfl opens_int (.cons rfl opens_int (.cons rfl opens_int (.cons rfl opens_int (.cons rfl opens_int (.one rfl opens_string))))))))
theorem opens_Packet : Opens Try.prog 67 (Int × Int × Int × Int × Int × Int × Int × Int × (Int × Int × Int × Int × Int × Int × Int × ByteArray)) := Opens.struct Try.underlying67 (by kernel_rfl) (.cons rfl opens_int (.cons rfl opens_int (.cons rfl opens_int (.cons rfl opens_int (.cons rfl opens_int (.cons rfl opens_int (.cons rfl opens_int (.cons rfl opens_int (.one rfl opens_Segment)))))))))
theorem opens_Super : Opens Try.prog 69 ((Int × Int × Int × Int × Int × Int × Int × Int × (Int × Int × Int × Int × Int × Int × Int × ByteArray)) × Int × Int) := Opens.struct Try.underlying69 (by kernel_rfl) (.cons rfl opens_Packet (.cons rfl opens_int (.one rfl opens_int)))
theorem opens_RxQueue : Opens Try.prog 71 ((Int × Int × Int × Int) × (Int × Int × Int) × (Int × Int × Int) × ((Int × Int × Int × Int × Int × Int × Int × Int × (Int × Int × Int × Int × Int × Int × Int × ByteArray)) × Int × Int) × Bool × Int) := Opens.struct Try.underlying71 (by kernel_rfl) (.cons rfl opens_Ring (.cons rfl opens_CompletionQueue (.cons rfl opens_CompletionQueue (.cons rfl opens_Super (.cons rfl opens_bool (.one rfl opens_int))))))

set_option maxRecDepth 100000 in
theorem lifted (os : Os) (started : os.Started) (H : Type) (enc : TypeId × Value → H) :
    ReturnsInHanded {} Try.checked os 6 .any (Rows.fnExactHasCompletionSpec.pre6 enc Try.prog Try.f6 Rows.fnExactHasCompletionRow.domain false) (Rows.fnExactHasCompletionSpec.post enc Try.prog Try.f6 false true false false) := by
  refine returnsInHanded_of_change (C := Try.checked) own started (by kernel_rfl) Try.func6
    (ChangeSpec.witness6 (enc := enc) (C := Try.checked) false ⟨#[], #[.slice none 0 0, .agg #[.slice none 0 0], .int .i64 0, .agg #[.int .i64 0, .int .i64 0, .int .i64 0, .int .i64 0, .int .i64 0, .int .i64 0, .int .i64 0, .int .i64 0, .int .i64 0, .int .i64 0, .int .i64 0, .int .i64 0, .int .i64 0, .int .i64 0, .int .i64 0, .int .i64 0, .int .i64 0, .int .i64 0, .int .i64 0, .int .i64 0, .int .i64 0, .int .i64 0, .int .i64 0, .int .i64 0, .int .i64 0, .string ⟨#[]⟩, .int .i64 0, .int .i64 0, .bool false, .int .i64 0]], []⟩ 8 (by kernel_rfl) (by kernel_rfl) (by kernel_rfl) (by kernel_rfl)) ?_
  intro W base args ds gs before hval0 hW hcnd _
  have hval : ∀ (j : Nat) t v, Try.f6.params[j]? = some t → args[j]? = some v → Value.okWide Try.prog W .any base t v := hval0
  have hW' := hW
  obtain ⟨p, q, hA0, hV, rfl, hfz, hnd⟩ := hW
  have hA : DataW.TrodAll enc Try.prog W 0 (fun _ => true) true Try.f6.params.toList args.toList ds p := hA0
  rw [Try.params6] at hA hval
  obtain ⟨v0, vs0, d0, ds0, p0, q0, hargs, rfl, rfl, h0, r0⟩ := trodAll_cons hA
  obtain ⟨v1, vs1, d1, ds1, p1, q1, rfl, rfl, rfl, h1, r1⟩ := trodAll_cons r0
  obtain ⟨v2, vs2, d2, ds2, p2, q2, rfl, rfl, rfl, h2, r2⟩ := trodAll_cons r1
  obtain ⟨v3, vs3, d3, ds3, p3, q3, rfl, rfl, rfl, h3, r3⟩ := trodAll_cons r2
  obtain ⟨rfl, rfl, rfl⟩ := trodAll_nil r3
  obtain rfl : args = #[v0, v1, v2, v3] := by cases args; simp_all
  obtain ⟨rfl, rfl⟩ := trodVars_none hV
  have lt0 : ∀ x ∈ p0, x.block < W.heap.size := by obtain ⟨m, hm⟩ := h0; exact DataW.trod_lt m _ _ _ hm
  have lt1 : ∀ x ∈ p1, x.block < W.heap.size := by obtain ⟨m, hm⟩ := h1; exact DataW.trod_lt m _ _ _ hm
  have lt2 : ∀ x ∈ p2, x.block < W.heap.size := by obtain ⟨m, hm⟩ := h2; exact DataW.trod_lt m _ _ _ hm
  have lt3 : ∀ x ∈ p3, x.block < W.heap.size := by obtain ⟨m, hm⟩ := h3; exact DataW.trod_lt m _ _ _ hm
  obtain ⟨a0, len0, cap0, rfl⟩ := okWide_slice Try.underlying45 (hval 0 _ v0 rfl rfl)
  obtain ⟨x0, b0, t0⟩ : ∃ x : List (Int × Int × Int × Bool), Holds W x (Value.cells (.slice a0 len0 cap0)).toList := by obtain ⟨m, hm⟩ := h0; exact opens_SMapping.2 enc W 0 true m _ _ hm
  obtain ⟨cs1, rfl, hz1⟩ := okWide_struct Try.underlying46 (hval 1 _ v1 rfl rfl)
  obtain ⟨x1, b1, t1⟩ : ∃ x : List ByteArray, Holds W x (Value.cells (.agg cs1)).toList := by obtain ⟨m, hm⟩ := h1; exact opens_Memory.2 enc W 0 true m _ _ hm
  obtain ⟨c2, rfl⟩ := okWide_int Try.underlying3 (hval 2 _ v2 rfl rfl)
  obtain ⟨x2, b2, t2⟩ : ∃ x : Int, Holds W x (Value.cells (.int .i64 c2)).toList := by obtain ⟨m, hm⟩ := h2; exact opens_int.2 enc W 0 true m _ _ hm
  simp only [Value.cells] at t2
  obtain ⟨e2, _, i2⟩ := t2
  simp at e2; subst e2
  obtain ⟨cs3, rfl, hz3⟩ := okWide_struct Try.underlying71 (hval 3 _ v3 rfl rfl)
  obtain ⟨⟨⟨aQ_Ring_Base, aQ_Ring_Size, aQ_Ring_Head, aQ_Ring_Tail⟩, ⟨aQ_Device_Base, aQ_Device_Size, aQ_Device_Count⟩, ⟨aQ_Driver_Base, aQ_Driver_Size, aQ_Driver_Count⟩, ⟨⟨aQ_Held_Packet_DstMac, aQ_Held_Packet_SrcMac, aQ_Held_Packet_Vlan, aQ_Held_Packet_Tos, aQ_Held_Packet_Id, aQ_Held_Packet_Ttl, aQ_Held_Packet_SrcIp, aQ_Held_Packet_DstIp, ⟨aQ_Held_Packet_Seg_Kind, aQ_Held_Packet_Seg_SrcPort, aQ_Held_Packet_Seg_DstPort, aQ_Held_Packet_Seg_Seq, aQ_Held_Packet_Seg_Ack, aQ_Held_Packet_Seg_Flags, aQ_Held_Packet_Seg_Window, aQ_Held_Packet_Seg_Body⟩⟩, aQ_Held_Size, aQ_Held_Count⟩, aQ_Holding, aQ_Dropped⟩, b3, t3⟩ : ∃ x : (Int × Int × Int × Int) × (Int × Int × Int) × (Int × Int × Int) × ((Int × Int × Int × Int × Int × Int × Int × Int × (Int × Int × Int × Int × Int × Int × Int × ByteArray)) × Int × Int) × Bool × Int, Holds W x (Value.cells (.agg cs3)).toList := by obtain ⟨m, hm⟩ := h3; exact opens_RxQueue.2 enc W 0 true m _ _ hm
  have k3 : ∃ vs, vs = cs3.toList := ⟨_, rfl⟩
  obtain ⟨vs3, k3⟩ := k3
  simp only [Value.cells] at t3
  rw [← k3] at t3
  obtain ⟨_, _, _, _, rfl, _, ⟨_, _, _, _, rfl, _, ⟨rfl, _, haQ_Ring_Base⟩, ⟨_, _, _, _, rfl, _, ⟨rfl, _, haQ_Ring_Size⟩, ⟨_, _, _, _, rfl, _, ⟨rfl, _, haQ_Ring_Head⟩, ⟨rfl, _, haQ_Ring_Tail⟩⟩⟩⟩, ⟨_, _, _, _, rfl, _, ⟨_, _, _, _, rfl, _, ⟨rfl, _, haQ_Device_Base⟩, ⟨_, _, _, _, rfl, _, ⟨rfl, _, haQ_Device_Size⟩, ⟨rfl, _, haQ_Device_Count⟩⟩⟩, ⟨_, _, _, _, rfl, _, ⟨_, _, _, _, rfl, _, ⟨rfl, _, haQ_Driver_Base⟩, ⟨_, _, _, _, rfl, _, ⟨rfl, _, haQ_Driver_Size⟩, ⟨rfl, _, haQ_Driver_Count⟩⟩⟩, ⟨_, _, _, _, rfl, _, ⟨_, _, _, _, rfl, _, ⟨_, _, _, _, rfl, _, ⟨rfl, _, haQ_Held_Packet_DstMac⟩, ⟨_, _, _, _, rfl, _, ⟨rfl, _, haQ_Held_Packet_SrcMac⟩, ⟨_, _, _, _, rfl, _, ⟨rfl, _, haQ_Held_Packet_Vlan⟩, ⟨_, _, _, _, rfl, _, ⟨rfl, _, haQ_Held_Packet_Tos⟩, ⟨_, _, _, _, rfl, _, ⟨rfl, _, haQ_Held_Packet_Id⟩, ⟨_, _, _, _, rfl, _, ⟨rfl, _, haQ_Held_Packet_Ttl⟩, ⟨_, _, _, _, rfl, _, ⟨rfl, _, haQ_Held_Packet_SrcIp⟩, ⟨_, _, _, _, rfl, _, ⟨rfl, _, haQ_Held_Packet_DstIp⟩, ⟨_, _, _, _, rfl, _, ⟨rfl, _, haQ_Held_Packet_Seg_Kind⟩, ⟨_, _, _, _, rfl, _, ⟨rfl, _, haQ_Held_Packet_Seg_SrcPort⟩, ⟨_, _, _, _, rfl, _, ⟨rfl, _, haQ_Held_Packet_Seg_DstPort⟩, ⟨_, _, _, _, rfl, _, ⟨rfl, _, haQ_Held_Packet_Seg_Seq⟩, ⟨_, _, _, _, rfl, _, ⟨rfl, _, haQ_Held_Packet_Seg_Ack⟩, ⟨_, _, _, _, rfl, _, ⟨rfl, _, haQ_Held_Packet_Seg_Flags⟩, ⟨_, _, _, _, rfl, _, ⟨rfl, _, haQ_Held_Packet_Seg_Window⟩, ⟨rfl, _, haQ_Held_Packet_Seg_Body⟩⟩⟩⟩⟩⟩⟩⟩⟩⟩⟩⟩⟩⟩⟩⟩, ⟨_, _, _, _, rfl, _, ⟨rfl, _, haQ_Held_Size⟩, ⟨rfl, _, haQ_Held_Count⟩⟩⟩, ⟨_, _, _, _, rfl, _, ⟨rfl, _⟩, ⟨rfl, _, haQ_Dropped⟩⟩⟩⟩⟩⟩ := t3
  obtain rfl : cs3 = #[.int .i64 aQ_Ring_Base, .int .i64 aQ_Ring_Size, .int .i64 aQ_Ring_Head, .int .i64 aQ_Ring_Tail, .int .i64 aQ_Device_Base, .int .i64 aQ_Device_Size, .int .i64 aQ_Device_Count, .int .i64 aQ_Driver_Base, .int .i64 aQ_Driver_Size, .int .i64 aQ_Driver_Count, .int .i64 aQ_Held_Packet_DstMac, .int .i64 aQ_Held_Packet_SrcMac, .int .i64 aQ_Held_Packet_Vlan, .int .i64 aQ_Held_Packet_Tos, .int .i64 aQ_Held_Packet_Id, .int .i64 aQ_Held_Packet_Ttl, .int .i64 aQ_Held_Packet_SrcIp, .int .i64 aQ_Held_Packet_DstIp, .int .i64 aQ_Held_Packet_Seg_Kind, .int .i64 aQ_Held_Packet_Seg_SrcPort, .int .i64 aQ_Held_Packet_Seg_DstPort, .int .i64 aQ_Held_Packet_Seg_Seq, .int .i64 aQ_Held_Packet_Seg_Ack, .int .i64 aQ_Held_Packet_Seg_Flags, .int .i64 aQ_Held_Packet_Seg_Window, .string aQ_Held_Packet_Seg_Body, .int .i64 aQ_Held_Size, .int .i64 aQ_Held_Count, .bool aQ_Holding, .int .i64 aQ_Dropped] := by cases cs3; simp_all
  clear hA0 hval0
  refine (walk_FnExactHasCompletion W _ x0 ⟨b0, t0⟩ cs1 x1 ⟨b1, t1⟩ _ i2 aQ_Ring_Base haQ_Ring_Base aQ_Ring_Size haQ_Ring_Size aQ_Ring_Head haQ_Ring_Head aQ_Ring_Tail haQ_Ring_Tail aQ_Device_Base haQ_Device_Base aQ_Device_Size haQ_Device_Size aQ_Device_Count haQ_Device_Count aQ_Driver_Base haQ_Driver_Base aQ_Driver_Size haQ_Driver_Size aQ_Driver_Count haQ_Driver_Count aQ_Held_Packet_DstMac haQ_Held_Packet_DstMac aQ_Held_Packet_SrcMac haQ_Held_Packet_SrcMac aQ_Held_Packet_Vlan haQ_Held_Packet_Vlan aQ_Held_Packet_Tos haQ_Held_Packet_Tos aQ_Held_Packet_Id haQ_Held_Packet_Id aQ_Held_Packet_Ttl haQ_Held_Packet_Ttl aQ_Held_Packet_SrcIp haQ_Held_Packet_SrcIp aQ_Held_Packet_DstIp haQ_Held_Packet_DstIp aQ_Held_Packet_Seg_Kind haQ_Held_Packet_Seg_Kind aQ_Held_Packet_Seg_SrcPort haQ_Held_Packet_Seg_SrcPort aQ_Held_Packet_Seg_DstPort haQ_Held_Packet_Seg_DstPort aQ_Held_Packet_Seg_Seq haQ_Held_Packet_Seg_Seq aQ_Held_Packet_Seg_Ack haQ_Held_Packet_Seg_Ack aQ_Held_Packet_Seg_Flags haQ_Held_Packet_Seg_Flags aQ_Held_Packet_Seg_Window haQ_Held_Packet_Seg_Window aQ_Held_Packet_Seg_Body haQ_Held_Packet_Seg_Body aQ_Held_Size haQ_Held_Size aQ_Held_Count haQ_Held_Count aQ_Holding aQ_Dropped haQ_Dropped).mono fun e W' ⟨he, hx⟩ => ?_
  subst he
  have bel := hx.below
  exact ⟨_, rfl, _, _, _, [], _, [], hW', trodAll_mk1 (shut_bool Try.underlying4 _), (trodAll_cons_mk (Below.trod laidOut (by kernel_rfl) (of_decide_eq_true (by kernel_rfl)) h0 bel lt0) (trodAll_cons_mk (Below.trod laidOut (by kernel_rfl) (of_decide_eq_true (by kernel_rfl)) h1 bel lt1) (trodAll_cons_mk (Below.trod laidOut (by kernel_rfl) (of_decide_eq_true (by kernel_rfl)) h2 bel lt2) (trodAll_cons_mk (Below.trod laidOut (by kernel_rfl) (of_decide_eq_true (by kernel_rfl)) h3 bel lt3) trodAll_mk0)))), rfl, bel.frame _, fun h => by cases h⟩

theorem over : Rows.fnExactHasCompletionRow.holds Try.pinned (OpenSpec.ofChange Rows.fnExactHasCompletionSpec) :=
  OpenClaim.holds_of_wide 6 Try.f6 rfl rfl rfl rfl rfl rfl rfl ⟨rfl, rfl, rfl, rfl, rfl⟩ rfl rfl rfl rfl rfl (by kernel_rfl) Try.func6 (by kernel_rfl)
    (of_decide_eq_true (by kernel_rfl)) (by unfold Func.isWrapper; first | (rw [if_pos (by decide +kernel)]; kernel_rfl) | (rw [if_neg (by decide +kernel)]; exact ⟨rfl, rfl⟩))
    (fun os started H enc _ => lifted os started H enc)

theorem proved : Rows.FnExactHasCompletionSaid := over
end Go.Proofs.Ytelkplponnfkpaa.lawFnExactHasCompletion
