/- The statement Rows.FnExactPollQueueSaid is proved: whatever the input, the call of laws.FnExactPollQueue returns true and leaves its arguments as they were. No condition. -/
import Derived.Test.YtbdcaacpemkloaaGreatMFnExactPollQueuef
namespace Go.Proofs.YtbdcaacpemkloaaGreat.lawFnExactPollQueue
open Go.ChangeShapes Go.WideShapes Go.ChangeAt Go.RowKit
open Go.ChangeMaps (open_string shut_string)
set_option linter.unusedVariables false
theorem own : ownKnob Tryz.prog.godebug = none := by kernel_rfl
theorem laidOut : laidOutB Tryz.prog = true := by kernel_rfl
theorem opens_int : Opens Tryz.prog 3 (Int) := Opens.int Tryz.underlying3 (by kernel_rfl)
theorem opens_bool : Opens Tryz.prog 4 (Bool) := Opens.bool Tryz.underlying4 (by kernel_rfl)
theorem opens_Mapping : Opens Tryz.prog 164 (Int × Int × Int × Bool) := Opens.struct Tryz.underlying164 (by kernel_rfl) (.cons rfl opens_int (.cons rfl opens_int (.cons rfl opens_int (.one rfl opens_bool))))
theorem opens_SMapping : Opens Tryz.prog 55 (List (Int × Int × Int × Bool)) := Opens.slice Tryz.underlying55 (by kernel_rfl) opens_Mapping
theorem opens_string : Opens Tryz.prog 9 (ByteArray) := Opens.string Tryz.underlying9 (by kernel_rfl)
theorem opens_Sstring : Opens Tryz.prog 25 (List ByteArray) := Opens.slice Tryz.underlying25 (by kernel_rfl) opens_string
theorem opens_Memory : Opens Tryz.prog 56 (List ByteArray) := Opens.struct Tryz.underlying56 (by kernel_rfl) (.one rfl opens_Sstring)
theorem opens_Ring : Opens Tryz.prog 57 (Int × Int × Int × Int) := Opens.struct Tryz.underlying57 (by kernel_rfl) (.cons rfl opens_int (.cons rfl opens_int (.cons rfl opens_int (.one rfl opens_int))))
theorem opens_CompletionQueue : Opens Tryz.prog 86 (Int × Int × Int) := Opens.struct Tryz.underlying86 (by kernel_rfl) (.cons rfl opens_int (.cons rfl opens_int (.one rfl opens_int)))
theorem opens_Segment : Opens Tryz.prog 62 (Int × Int × Int × Int × Int × Int × Int × ByteArray) := Opens.struct Tryz.underlying62 (by kernel_rfl) (.cons rfl opens_int (.cons rfl opens_int (.cons rfl opens_int (.cons rfl opens_int (.cons rfl opens_int (.cons rfl opens_int (.cons rfl opens_int (.one rfl opens_string))))))))
theorem opens_Packet : Opens Tryz.prog 64 (Int × Int × Int × Int × Int × Int × Int × Int × (Int × Int × Int × Int × Int × Int × Int × ByteArray)) := Opens.struct Tryz.underlying64 (by kernel_rfl) (.cons rfl opens_int (.cons rfl opens_int (.cons rfl opens_int (.cons rfl opens_int (.cons rfl opens_int (.cons rfl opens_int (.cons rfl opens_int (.cons rfl opens_int (.one rfl opens_Segment)))))))))
theorem opens_Super : Opens Tryz.prog 88 ((Int × Int × Int × Int × Int × Int × Int × Int × (Int × Int × Int × Int × Int × Int × Int × ByteArray)) × Int × Int) := Opens.struct Tryz.underlying88 (by kernel_rfl) (.cons rfl opens_Packet (.cons rfl opens_int (.one rfl opens_int)))
theorem opens_RxQueue : Opens Tryz.prog 90 ((Int × Int × Int × Int) × (Int × Int × Int) × (Int × Int × Int) × ((Int × Int × Int × Int × Int × Int × Int × Int × (Int × Int × Int × Int × Int × Int × Int × ByteArray)) × Int × Int) × Bool × Int) := Opens.struct Tryz.underlying90 (by kernel_rfl) (.cons rfl opens_Ring (.cons rfl opens_CompletionQueue (.cons rfl opens_CompletionQueue (.cons rfl opens_Super (.cons rfl opens_bool (.one rfl opens_int))))))
theorem opens_Sint : Opens Tryz.prog 30 (List Int) := Opens.slice Tryz.underlying30 (by kernel_rfl) opens_int
theorem opens_Pool : Opens Tryz.prog 58 (Int × Int × Int × List Int) := Opens.struct Tryz.underlying58 (by kernel_rfl) (.cons rfl opens_int (.cons rfl opens_int (.cons rfl opens_int (.one rfl opens_Sint))))
theorem opens_Flow : Opens Tryz.prog 178 (Int × Int × Int × Int × Int) := Opens.struct Tryz.underlying178 (by kernel_rfl) (.cons rfl opens_int (.cons rfl opens_int (.cons rfl opens_int (.cons rfl opens_int (.one rfl opens_int)))))
theorem opens_Stream : Opens Tryz.prog 180 ((Int × Int × Int × Int × Int) × Int × ByteArray × Bool) := Opens.struct Tryz.underlying180 (by kernel_rfl) (.cons rfl opens_Flow (.cons rfl opens_int (.cons rfl opens_string (.one rfl opens_bool))))
theorem opens_SStream : Opens Tryz.prog 91 (List ((Int × Int × Int × Int × Int) × Int × ByteArray × Bool)) := Opens.slice Tryz.underlying91 (by kernel_rfl) opens_Stream
set_option maxRecDepth 100000 in
set_option maxHeartbeats 8000000 in
theorem lifted (os : Os) (started : os.Started) (H : Type) (enc : TypeId × Value → H) :
    ReturnsInHanded {} Tryz.checked os 7 .any (Rows.fnExactPollQueueSpec.pre6 enc Tryz.prog Tryz.f7 Rows.fnExactPollQueueRow.domain false) (Rows.fnExactPollQueueSpec.post enc Tryz.prog Tryz.f7 false true false false) := by
  refine returnsInHanded_of_change (C := Tryz.checked) own started (by kernel_rfl) Tryz.func7
    (ChangeSpec.witness6 (enc := enc) (C := Tryz.checked) false ⟨#[], #[.slice none 0 0, .agg #[.slice none 0 0], .int .i64 0, .agg #[.int .i64 0, .int .i64 0, .int .i64 0, .int .i64 0, .int .i64 0, .int .i64 0, .int .i64 0, .int .i64 0, .int .i64 0, .int .i64 0, .int .i64 0, .int .i64 0, .int .i64 0, .int .i64 0, .int .i64 0, .int .i64 0, .int .i64 0, .int .i64 0, .int .i64 0, .int .i64 0, .int .i64 0, .int .i64 0, .int .i64 0, .int .i64 0, .int .i64 0, .string ⟨#[]⟩, .int .i64 0, .int .i64 0, .bool false, .int .i64 0], .agg #[.int .i64 0, .int .i64 0, .int .i64 0, .slice none 0 0], .slice none 0 0, .int .i64 0], []⟩ 8 (by kernel_rfl) (by kernel_rfl) (by kernel_rfl) (by kernel_rfl)) ?_
  intro W base args ds gs before hval0 hW hcnd _
  have hval : ∀ (j : Nat) t v, Tryz.f7.params[j]? = some t → args[j]? = some v → Value.okWide Tryz.prog W .any base t v := hval0
  have hW' := hW
  obtain ⟨p, q, hA0, hV, rfl, hfz, hnd⟩ := hW
  have hA : DataW.TrodAll enc Tryz.prog W 0 (fun _ => true) true Tryz.f7.params.toList args.toList ds p := hA0
  rw [Tryz.params7] at hA hval
  obtain ⟨v0, vs0, d0, ds0, p0, q0, hargs, rfl, rfl, h0, r0⟩ := trodAll_cons hA
  obtain ⟨v1, vs1, d1, ds1, p1, q1, rfl, rfl, rfl, h1, r1⟩ := trodAll_cons r0
  obtain ⟨v2, vs2, d2, ds2, p2, q2, rfl, rfl, rfl, h2, r2⟩ := trodAll_cons r1
  obtain ⟨v3, vs3, d3, ds3, p3, q3, rfl, rfl, rfl, h3, r3⟩ := trodAll_cons r2
  obtain ⟨v4, vs4, d4, ds4, p4, q4, rfl, rfl, rfl, h4, r4⟩ := trodAll_cons r3
  obtain ⟨v5, vs5, d5, ds5, p5, q5, rfl, rfl, rfl, h5, r5⟩ := trodAll_cons r4
  obtain ⟨v6, vs6, d6, ds6, p6, q6, rfl, rfl, rfl, h6, r6⟩ := trodAll_cons r5
  obtain ⟨rfl, rfl, rfl⟩ := trodAll_nil r6
  obtain rfl : args = #[v0, v1, v2, v3, v4, v5, v6] := by cases args; simp_all
  obtain ⟨rfl, rfl⟩ := trodVars_none hV
  have lt0 : ∀ x ∈ p0, x.block < W.heap.size := by obtain ⟨m, hm⟩ := h0; exact DataW.trod_lt m _ _ _ hm
  have lt1 : ∀ x ∈ p1, x.block < W.heap.size := by obtain ⟨m, hm⟩ := h1; exact DataW.trod_lt m _ _ _ hm
  have lt2 : ∀ x ∈ p2, x.block < W.heap.size := by obtain ⟨m, hm⟩ := h2; exact DataW.trod_lt m _ _ _ hm
  have lt3 : ∀ x ∈ p3, x.block < W.heap.size := by obtain ⟨m, hm⟩ := h3; exact DataW.trod_lt m _ _ _ hm
  have lt4 : ∀ x ∈ p4, x.block < W.heap.size := by obtain ⟨m, hm⟩ := h4; exact DataW.trod_lt m _ _ _ hm
  have lt5 : ∀ x ∈ p5, x.block < W.heap.size := by obtain ⟨m, hm⟩ := h5; exact DataW.trod_lt m _ _ _ hm
  have lt6 : ∀ x ∈ p6, x.block < W.heap.size := by obtain ⟨m, hm⟩ := h6; exact DataW.trod_lt m _ _ _ hm
  obtain ⟨a0, len0, cap0, rfl⟩ := okWide_slice Tryz.underlying55 (hval 0 _ v0 rfl rfl)
  obtain ⟨x0, b0, t0⟩ : ∃ x : List (Int × Int × Int × Bool), Holds W x (Value.cells (.slice a0 len0 cap0)).toList := by obtain ⟨m, hm⟩ := h0; exact opens_SMapping.2 enc W 0 true m _ _ hm
  obtain ⟨cs1, rfl, hz1⟩ := okWide_struct Tryz.underlying56 (hval 1 _ v1 rfl rfl)
  obtain ⟨x1, b1, t1⟩ : ∃ x : List ByteArray, Holds W x (Value.cells (.agg cs1)).toList := by obtain ⟨m, hm⟩ := h1; exact opens_Memory.2 enc W 0 true m _ _ hm
  obtain ⟨c2, rfl⟩ := okWide_int Tryz.underlying3 (hval 2 _ v2 rfl rfl)
  obtain ⟨x2, b2, t2⟩ : ∃ x : Int, Holds W x (Value.cells (.int .i64 c2)).toList := by obtain ⟨m, hm⟩ := h2; exact opens_int.2 enc W 0 true m _ _ hm
  simp only [Value.cells] at t2
  obtain ⟨e2, _, i2⟩ := t2
  simp at e2; subst e2
  obtain ⟨cs3, rfl, hz3⟩ := okWide_struct Tryz.underlying90 (hval 3 _ v3 rfl rfl)
  obtain ⟨⟨⟨aQ_Ring_Base, aQ_Ring_Size, aQ_Ring_Head, aQ_Ring_Tail⟩, ⟨aQ_Device_Base, aQ_Device_Size, aQ_Device_Count⟩, ⟨aQ_Driver_Base, aQ_Driver_Size, aQ_Driver_Count⟩, ⟨⟨aQ_Held_Packet_DstMac, aQ_Held_Packet_SrcMac, aQ_Held_Packet_Vlan, aQ_Held_Packet_Tos, aQ_Held_Packet_Id, aQ_Held_Packet_Ttl, aQ_Held_Packet_SrcIp, aQ_Held_Packet_DstIp, ⟨aQ_Held_Packet_Seg_Kind, aQ_Held_Packet_Seg_SrcPort, aQ_Held_Packet_Seg_DstPort, aQ_Held_Packet_Seg_Seq, aQ_Held_Packet_Seg_Ack, aQ_Held_Packet_Seg_Flags, aQ_Held_Packet_Seg_Window, aQ_Held_Packet_Seg_Body⟩⟩, aQ_Held_Size, aQ_Held_Count⟩, aQ_Holding, aQ_Dropped⟩, b3, t3⟩ : ∃ x : (Int × Int × Int × Int) × (Int × Int × Int) × (Int × Int × Int) × ((Int × Int × Int × Int × Int × Int × Int × Int × (Int × Int × Int × Int × Int × Int × Int × ByteArray)) × Int × Int) × Bool × Int, Holds W x (Value.cells (.agg cs3)).toList := by obtain ⟨m, hm⟩ := h3; exact opens_RxQueue.2 enc W 0 true m _ _ hm
  obtain ⟨k3, f3⟩ := Holds.flat1 (a := ((aQ_Ring_Base, aQ_Ring_Size, aQ_Ring_Head, aQ_Ring_Tail), (aQ_Device_Base, aQ_Device_Size, aQ_Device_Count), (aQ_Driver_Base, aQ_Driver_Size, aQ_Driver_Count), ((aQ_Held_Packet_DstMac, aQ_Held_Packet_SrcMac, aQ_Held_Packet_Vlan, aQ_Held_Packet_Tos, aQ_Held_Packet_Id, aQ_Held_Packet_Ttl, aQ_Held_Packet_SrcIp, aQ_Held_Packet_DstIp, (aQ_Held_Packet_Seg_Kind, aQ_Held_Packet_Seg_SrcPort, aQ_Held_Packet_Seg_DstPort, aQ_Held_Packet_Seg_Seq, aQ_Held_Packet_Seg_Ack, aQ_Held_Packet_Seg_Flags, aQ_Held_Packet_Seg_Window, aQ_Held_Packet_Seg_Body)), aQ_Held_Size, aQ_Held_Count), aQ_Holding, aQ_Dropped)) ⟨b3, t3⟩
  obtain rfl : cs3 = #[.int .i64 aQ_Ring_Base, .int .i64 aQ_Ring_Size, .int .i64 aQ_Ring_Head, .int .i64 aQ_Ring_Tail, .int .i64 aQ_Device_Base, .int .i64 aQ_Device_Size, .int .i64 aQ_Device_Count, .int .i64 aQ_Driver_Base, .int .i64 aQ_Driver_Size, .int .i64 aQ_Driver_Count, .int .i64 aQ_Held_Packet_DstMac, .int .i64 aQ_Held_Packet_SrcMac, .int .i64 aQ_Held_Packet_Vlan, .int .i64 aQ_Held_Packet_Tos, .int .i64 aQ_Held_Packet_Id, .int .i64 aQ_Held_Packet_Ttl, .int .i64 aQ_Held_Packet_SrcIp, .int .i64 aQ_Held_Packet_DstIp, .int .i64 aQ_Held_Packet_Seg_Kind, .int .i64 aQ_Held_Packet_Seg_SrcPort, .int .i64 aQ_Held_Packet_Seg_DstPort, .int .i64 aQ_Held_Packet_Seg_Seq, .int .i64 aQ_Held_Packet_Seg_Ack, .int .i64 aQ_Held_Packet_Seg_Flags, .int .i64 aQ_Held_Packet_Seg_Window, .string aQ_Held_Packet_Seg_Body, .int .i64 aQ_Held_Size, .int .i64 aQ_Held_Count, .bool aQ_Holding, .int .i64 aQ_Dropped] := Array.toList_inj.1 k3
  obtain ⟨cs4, rfl, hz4⟩ := okWide_struct Tryz.underlying58 (hval 4 _ v4 rfl rfl)
  obtain ⟨x4, b4, t4⟩ : ∃ x : Int × Int × Int × List Int, Holds W x (Value.cells (.agg cs4)).toList := by obtain ⟨m, hm⟩ := h4; exact opens_Pool.2 enc W 0 true m _ _ hm
  obtain ⟨a5, len5, cap5, rfl⟩ := okWide_slice Tryz.underlying91 (hval 5 _ v5 rfl rfl)
  obtain ⟨x5, b5, t5⟩ : ∃ x : List ((Int × Int × Int × Int × Int) × Int × ByteArray × Bool), Holds W x (Value.cells (.slice a5 len5 cap5)).toList := by obtain ⟨m, hm⟩ := h5; exact opens_SStream.2 enc W 0 true m _ _ hm
  obtain ⟨c6, rfl⟩ := okWide_int Tryz.underlying3 (hval 6 _ v6 rfl rfl)
  obtain ⟨x6, b6, t6⟩ : ∃ x : Int, Holds W x (Value.cells (.int .i64 c6)).toList := by obtain ⟨m, hm⟩ := h6; exact opens_int.2 enc W 0 true m _ _ hm
  simp only [Value.cells] at t6
  obtain ⟨e6, _, i6⟩ := t6
  simp at e6; subst e6
  clear hA0 hval0
  refine (walk_FnExactPollQueue W _ x0 ⟨b0, t0⟩ cs1 x1 ⟨b1, t1⟩ _ i2 aQ_Ring_Base f3.1.1 aQ_Ring_Size f3.1.2.1 aQ_Ring_Head f3.1.2.2.1 aQ_Ring_Tail f3.1.2.2.2 aQ_Device_Base f3.2.1.1 aQ_Device_Size f3.2.1.2.1 aQ_Device_Count f3.2.1.2.2 aQ_Driver_Base f3.2.2.1.1 aQ_Driver_Size f3.2.2.1.2.1 aQ_Driver_Count f3.2.2.1.2.2 aQ_Held_Packet_DstMac f3.2.2.2.1.1.1 aQ_Held_Packet_SrcMac f3.2.2.2.1.1.2.1 aQ_Held_Packet_Vlan f3.2.2.2.1.1.2.2.1 aQ_Held_Packet_Tos f3.2.2.2.1.1.2.2.2.1 aQ_Held_Packet_Id f3.2.2.2.1.1.2.2.2.2.1 aQ_Held_Packet_Ttl f3.2.2.2.1.1.2.2.2.2.2.1 aQ_Held_Packet_SrcIp f3.2.2.2.1.1.2.2.2.2.2.2.1 aQ_Held_Packet_DstIp f3.2.2.2.1.1.2.2.2.2.2.2.2.1 aQ_Held_Packet_Seg_Kind f3.2.2.2.1.1.2.2.2.2.2.2.2.2.1 aQ_Held_Packet_Seg_SrcPort f3.2.2.2.1.1.2.2.2.2.2.2.2.2.2.1 aQ_Held_Packet_Seg_DstPort f3.2.2.2.1.1.2.2.2.2.2.2.2.2.2.2.1 aQ_Held_Packet_Seg_Seq f3.2.2.2.1.1.2.2.2.2.2.2.2.2.2.2.2.1 aQ_Held_Packet_Seg_Ack f3.2.2.2.1.1.2.2.2.2.2.2.2.2.2.2.2.2.1 aQ_Held_Packet_Seg_Flags f3.2.2.2.1.1.2.2.2.2.2.2.2.2.2.2.2.2.2.1 aQ_Held_Packet_Seg_Window f3.2.2.2.1.1.2.2.2.2.2.2.2.2.2.2.2.2.2.2.1 aQ_Held_Packet_Seg_Body f3.2.2.2.1.1.2.2.2.2.2.2.2.2.2.2.2.2.2.2.2 aQ_Held_Size f3.2.2.2.1.2.1 aQ_Held_Count f3.2.2.2.1.2.2 aQ_Holding aQ_Dropped f3.2.2.2.2.2 cs4 x4 ⟨b4, t4⟩ _ x5 ⟨b5, t5⟩ _ i6).mono fun e W' ⟨he, hx⟩ => ?_
  subst he
  have bel := hx.below
  exact ⟨_, rfl, _, _, _, [], _, [], hW', trodAll_mk1 (shut_bool Tryz.underlying4 _), (trodAll_cons_mk (Below.trod laidOut (by kernel_rfl) (of_decide_eq_true (by kernel_rfl)) h0 bel lt0) (trodAll_cons_mk (Below.trod laidOut (by kernel_rfl) (of_decide_eq_true (by kernel_rfl)) h1 bel lt1) (trodAll_cons_mk (Below.trod laidOut (by kernel_rfl) (of_decide_eq_true (by kernel_rfl)) h2 bel lt2) (trodAll_cons_mk (Below.trod laidOut (by kernel_rfl) (of_decide_eq_true (by kernel_rfl)) h3 bel lt3) (trodAll_cons_mk (Below.trod laidOut (by kernel_rfl) (of_decide_eq_true (by kernel_rfl)) h4 bel lt4) (trodAll_cons_mk (Below.trod laidOut (by kernel_rfl) (of_decide_eq_true (by kernel_rfl)) h5 bel lt5) (trodAll_cons_mk (Below.trod laidOut (by kernel_rfl) (of_decide_eq_true (by kernel_rfl)) h6 bel lt6) trodAll_mk0))))))), rfl, bel.frame _, fun h => by cases h⟩
theorem over : Rows.fnExactPollQueueRow.holds Tryz.pinned (OpenSpec.ofChange Rows.fnExactPollQueueSpec) :=
  OpenClaim.holds_of_wide 7 Tryz.f7 rfl rfl rfl rfl rfl rfl rfl ⟨rfl, rfl, rfl, rfl, rfl⟩ rfl rfl rfl rfl rfl (by kernel_rfl) Tryz.func7 (by kernel_rfl)
    (of_decide_eq_true (by kernel_rfl)) (by unfold Func.isWrapper; first | (rw [if_pos (by decide +kernel)]; kernel_rfl) | (rw [if_neg (by decide +kernel)]; exact ⟨rfl, rfl⟩))
    (fun os started H enc _ => lifted os started H enc)
theorem proved : Rows.FnExactPollQueueSaid := over
end Go.Proofs.YtbdcaacpemkloaaGreat.lawFnExactPollQueue
