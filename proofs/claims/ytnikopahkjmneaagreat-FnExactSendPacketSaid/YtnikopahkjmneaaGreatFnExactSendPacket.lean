/- The statement Rows.FnExactSendPacketSaid is proved: whatever the input, the call of laws.FnExactSendPacket returns true and leaves its arguments as they were. No condition. -/
import Derived.Test.YtnikopahkjmneaaGreatMFnExactSendPackete
namespace Go.Proofs.YtnikopahkjmneaaGreat.lawFnExactSendPacket
open Go.ChangeShapes Go.WideShapes Go.ChangeAt Go.RowKit
open Go.ChangeMaps (open_string shut_string)
set_option linter.unusedVariables false
theorem own : ownKnob Tryz.prog.godebug = none := by kernel_rfl
theorem laidOut : laidOutB Tryz.prog = true := by kernel_rfl
theorem opens_int : Opens Tryz.prog 3 (Int) := Opens.int Tryz.underlying3 (by kernel_rfl)
theorem opens_bool : Opens Tryz.prog 4 (Bool) := Opens.bool Tryz.underlying4 (by kernel_rfl)
theorem opens_Mapping : Opens Tryz.prog 97 (Int × Int × Int × Bool) := Opens.struct Tryz.underlying97 (by kernel_rfl) (.cons rfl opens_int (.cons rfl opens_int (.cons rfl opens_int (.one rfl opens_bool))))
theorem opens_SMapping : Opens Tryz.prog 22 (List (Int × Int × Int × Bool)) := Opens.slice Tryz.underlying22 (by kernel_rfl) opens_Mapping
theorem opens_string : Opens Tryz.prog 9 (ByteArray) := Opens.string Tryz.underlying9 (by kernel_rfl)
theorem opens_Sstring : Opens Tryz.prog 23 (List ByteArray) := Opens.slice Tryz.underlying23 (by kernel_rfl) opens_string
theorem opens_Memory : Opens Tryz.prog 25 (List ByteArray) := Opens.struct Tryz.underlying25 (by kernel_rfl) (.one rfl opens_Sstring)
theorem opens_Ring : Opens Tryz.prog 27 (Int × Int × Int × Int) := Opens.struct Tryz.underlying27 (by kernel_rfl) (.cons rfl opens_int (.cons rfl opens_int (.cons rfl opens_int (.one rfl opens_int))))
theorem opens_Sint : Opens Tryz.prog 28 (List Int) := Opens.slice Tryz.underlying28 (by kernel_rfl) opens_int
theorem opens_Pool : Opens Tryz.prog 30 (Int × Int × Int × List Int) := Opens.struct Tryz.underlying30 (by kernel_rfl) (.cons rfl opens_int (.cons rfl opens_int (.cons rfl opens_int (.one rfl opens_Sint))))
theorem opens_Sent : Opens Tryz.prog 114 (Int × Int × List Int) := Opens.struct Tryz.underlying114 (by kernel_rfl) (.cons rfl opens_int (.cons rfl opens_int (.one rfl opens_Sint)))
theorem opens_SSent : Opens Tryz.prog 31 (List (Int × Int × List Int)) := Opens.slice Tryz.underlying31 (by kernel_rfl) opens_Sent
theorem opens_TxQueue : Opens Tryz.prog 33 ((Int × Int × Int × Int) × (Int × Int × Int × List Int) × List (Int × Int × List Int) × Int) := Opens.struct Tryz.underlying33 (by kernel_rfl) (.cons rfl opens_Ring (.cons rfl opens_Pool (.cons rfl opens_SSent (.one rfl opens_int))))
theorem opens_Segment : Opens Tryz.prog 35 (Int × Int × Int × Int × Int × Int × Int × ByteArray) := Opens.struct Tryz.underlying35 (by kernel_rfl) (.cons rfl opens_int (.cons rfl opens_int (.cons rfl opens_int (.cons rfl opens_int (.cons rfl opens_int (.cons rfl opens_int (.cons rfl opens_int (.one rfl opens_string))))))))
theorem opens_Packet : Opens Tryz.prog 37 (Int × Int × Int × Int × Int × Int × Int × Int × (Int × Int × Int × Int × Int × Int × Int × ByteArray)) := Opens.struct Tryz.underlying37 (by kernel_rfl) (.cons rfl opens_int (.cons rfl opens_int (.cons rfl opens_int (.cons rfl opens_int (.cons rfl opens_int (.cons rfl opens_int (.cons rfl opens_int (.cons rfl opens_int (.one rfl opens_Segment)))))))))
set_option maxRecDepth 100000 in
set_option maxHeartbeats 8000000 in
theorem lifted (os : Os) (started : os.Started) (H : Type) (enc : TypeId × Value → H) :
    ReturnsInHanded {} Tryz.checked os 3 .any (Rows.fnExactSendPacketSpec.pre6 enc Tryz.prog Tryz.f3 Rows.fnExactSendPacketRow.domain false) (Rows.fnExactSendPacketSpec.post enc Tryz.prog Tryz.f3 false true false false) := by
  refine returnsInHanded_of_change (C := Tryz.checked) own started (by kernel_rfl) Tryz.func3
    (ChangeSpec.witness6 (enc := enc) (C := Tryz.checked) false ⟨#[], #[.slice none 0 0, .agg #[.slice none 0 0], .int .i64 0, .agg #[.int .i64 0, .int .i64 0, .int .i64 0, .int .i64 0, .int .i64 0, .int .i64 0, .int .i64 0, .slice none 0 0, .slice none 0 0, .int .i64 0], .agg #[.int .i64 0, .int .i64 0, .int .i64 0, .int .i64 0, .int .i64 0, .int .i64 0, .int .i64 0, .int .i64 0, .int .i64 0, .int .i64 0, .int .i64 0, .int .i64 0, .int .i64 0, .int .i64 0, .int .i64 0, .string ⟨#[]⟩], .int .i64 0, .int .i64 0], []⟩ 8 (by kernel_rfl) (by kernel_rfl) (by kernel_rfl) (by kernel_rfl)) ?_
  intro W base args ds gs before hval0 hW hcnd _
  have hval : ∀ (j : Nat) t v, Tryz.f3.params[j]? = some t → args[j]? = some v → Value.okWide Tryz.prog W .any base t v := hval0
  have hW' := hW
  obtain ⟨p, q, hA0, hV, rfl, hfz, hnd⟩ := hW
  have hA : DataW.TrodAll enc Tryz.prog W 0 (fun _ => true) true Tryz.f3.params.toList args.toList ds p := hA0
  rw [Tryz.params3] at hA hval
  obtain ⟨v0, vs0, d0, ds0, p0, q0, hargs, rfl, rfl, h0, r0⟩ := trodAll_cons hA
  obtain ⟨v1, vs1, d1, ds1, p1, q1, rfl, rfl, rfl, h1, r1⟩ := trodAll_cons r0
  obtain ⟨v2, vs2, d2, ds2, p2, q2, rfl, rfl, rfl, h2, r2⟩ := trodAll_cons r1
  obtain ⟨v3, vs3, d3, ds3, p3, q3, rfl, rfl, rfl, h3, r3⟩ := trodAll_cons r2
  obtain ⟨v4, vs4, d4, ds4, p4, q4, rfl, rfl, rfl, h4, r4⟩ := trodAll_cons r3
  obtain ⟨v5, vs5, d5, ds5, p5, q5, rfl, rfl, rfl, h5, r5⟩ := trodAll_cons r4
  obtain ⟨v6, vs6, d6, ds6, p6, q6, rfl, rfl, rfl, h6, r6⟩ := trodAll_cons r5
  obtain ⟨rfl, rfl, rfl⟩ := trodAll_nil r6
  obtain rfl : args = #[v0, v1, v2, v3, v4, v5, v6] := by cases args; simp_all
  obtain ⟨rfl, rfl⟩ := trodVars_none hV
  have lt0 : ∀ x ∈ p0, x.block < W.heap.size := by obtain ⟨m, hm⟩ := h0; exact DataW.trod_lt m _ _ _ hm
  have lt1 : ∀ x ∈ p1, x.block < W.heap.size := by obtain ⟨m, hm⟩ := h1; exact DataW.trod_lt m _ _ _ hm
  have lt2 : ∀ x ∈ p2, x.block < W.heap.size := by obtain ⟨m, hm⟩ := h2; exact DataW.trod_lt m _ _ _ hm
  have lt3 : ∀ x ∈ p3, x.block < W.heap.size := by obtain ⟨m, hm⟩ := h3; exact DataW.trod_lt m _ _ _ hm
  have lt4 : ∀ x ∈ p4, x.block < W.heap.size := by obtain ⟨m, hm⟩ := h4; exact DataW.trod_lt m _ _ _ hm
  have lt5 : ∀ x ∈ p5, x.block < W.heap.size := by obtain ⟨m, hm⟩ := h5; exact DataW.trod_lt m _ _ _ hm
  have lt6 : ∀ x ∈ p6, x.block < W.heap.size := by obtain ⟨m, hm⟩ := h6; exact DataW.trod_lt m _ _ _ hm
  obtain ⟨a0, len0, cap0, rfl⟩ := okWide_slice Tryz.underlying22 (hval 0 _ v0 rfl rfl)
  obtain ⟨x0, b0, t0⟩ : ∃ x : List (Int × Int × Int × Bool), Holds W x (Value.cells (.slice a0 len0 cap0)).toList := by obtain ⟨m, hm⟩ := h0; exact opens_SMapping.2 enc W 0 true m _ _ hm
  obtain ⟨cs1, rfl, hz1⟩ := okWide_struct Tryz.underlying25 (hval 1 _ v1 rfl rfl)
  obtain ⟨x1, b1, t1⟩ : ∃ x : List ByteArray, Holds W x (Value.cells (.agg cs1)).toList := by obtain ⟨m, hm⟩ := h1; exact opens_Memory.2 enc W 0 true m _ _ hm
  obtain ⟨c2, rfl⟩ := okWide_int Tryz.underlying3 (hval 2 _ v2 rfl rfl)
  obtain ⟨x2, b2, t2⟩ : ∃ x : Int, Holds W x (Value.cells (.int .i64 c2)).toList := by obtain ⟨m, hm⟩ := h2; exact opens_int.2 enc W 0 true m _ _ hm
  simp only [Value.cells] at t2
  obtain ⟨e2, _, i2⟩ := t2
  simp at e2; subst e2
  obtain ⟨cs3, rfl, hz3⟩ := okWide_struct Tryz.underlying33 (hval 3 _ v3 rfl rfl)
  obtain ⟨x3, b3, t3⟩ : ∃ x : (Int × Int × Int × Int) × (Int × Int × Int × List Int) × List (Int × Int × List Int) × Int, Holds W x (Value.cells (.agg cs3)).toList := by obtain ⟨m, hm⟩ := h3; exact opens_TxQueue.2 enc W 0 true m _ _ hm
  obtain ⟨cs4, rfl, hz4⟩ := okWide_struct Tryz.underlying37 (hval 4 _ v4 rfl rfl)
  obtain ⟨⟨aP_DstMac, aP_SrcMac, aP_Vlan, aP_Tos, aP_Id, aP_Ttl, aP_SrcIp, aP_DstIp, ⟨aP_Seg_Kind, aP_Seg_SrcPort, aP_Seg_DstPort, aP_Seg_Seq, aP_Seg_Ack, aP_Seg_Flags, aP_Seg_Window, aP_Seg_Body⟩⟩, b4, t4⟩ : ∃ x : Int × Int × Int × Int × Int × Int × Int × Int × (Int × Int × Int × Int × Int × Int × Int × ByteArray), Holds W x (Value.cells (.agg cs4)).toList := by obtain ⟨m, hm⟩ := h4; exact opens_Packet.2 enc W 0 true m _ _ hm
  obtain ⟨k4, f4⟩ := Holds.flat1 (a := (aP_DstMac, aP_SrcMac, aP_Vlan, aP_Tos, aP_Id, aP_Ttl, aP_SrcIp, aP_DstIp, (aP_Seg_Kind, aP_Seg_SrcPort, aP_Seg_DstPort, aP_Seg_Seq, aP_Seg_Ack, aP_Seg_Flags, aP_Seg_Window, aP_Seg_Body))) ⟨b4, t4⟩
  obtain rfl : cs4 = #[.int .i64 aP_DstMac, .int .i64 aP_SrcMac, .int .i64 aP_Vlan, .int .i64 aP_Tos, .int .i64 aP_Id, .int .i64 aP_Ttl, .int .i64 aP_SrcIp, .int .i64 aP_DstIp, .int .i64 aP_Seg_Kind, .int .i64 aP_Seg_SrcPort, .int .i64 aP_Seg_DstPort, .int .i64 aP_Seg_Seq, .int .i64 aP_Seg_Ack, .int .i64 aP_Seg_Flags, .int .i64 aP_Seg_Window, .string aP_Seg_Body] := Array.toList_inj.1 k4
  obtain ⟨c5, rfl⟩ := okWide_int Tryz.underlying3 (hval 5 _ v5 rfl rfl)
  obtain ⟨x5, b5, t5⟩ : ∃ x : Int, Holds W x (Value.cells (.int .i64 c5)).toList := by obtain ⟨m, hm⟩ := h5; exact opens_int.2 enc W 0 true m _ _ hm
  simp only [Value.cells] at t5
  obtain ⟨e5, _, i5⟩ := t5
  simp at e5; subst e5
  obtain ⟨c6, rfl⟩ := okWide_int Tryz.underlying3 (hval 6 _ v6 rfl rfl)
  obtain ⟨x6, b6, t6⟩ : ∃ x : Int, Holds W x (Value.cells (.int .i64 c6)).toList := by obtain ⟨m, hm⟩ := h6; exact opens_int.2 enc W 0 true m _ _ hm
  simp only [Value.cells] at t6
  obtain ⟨e6, _, i6⟩ := t6
  simp at e6; subst e6
  clear hA0 hval0
  refine (walk_FnExactSendPacket W _ x0 ⟨b0, t0⟩ cs1 x1 ⟨b1, t1⟩ _ i2 cs3 x3 ⟨b3, t3⟩ aP_DstMac f4.1 aP_SrcMac f4.2.1 aP_Vlan f4.2.2.1 aP_Tos f4.2.2.2.1 aP_Id f4.2.2.2.2.1 aP_Ttl f4.2.2.2.2.2.1 aP_SrcIp f4.2.2.2.2.2.2.1 aP_DstIp f4.2.2.2.2.2.2.2.1 aP_Seg_Kind f4.2.2.2.2.2.2.2.2.1 aP_Seg_SrcPort f4.2.2.2.2.2.2.2.2.2.1 aP_Seg_DstPort f4.2.2.2.2.2.2.2.2.2.2.1 aP_Seg_Seq f4.2.2.2.2.2.2.2.2.2.2.2.1 aP_Seg_Ack f4.2.2.2.2.2.2.2.2.2.2.2.2.1 aP_Seg_Flags f4.2.2.2.2.2.2.2.2.2.2.2.2.2.1 aP_Seg_Window f4.2.2.2.2.2.2.2.2.2.2.2.2.2.2.1 aP_Seg_Body f4.2.2.2.2.2.2.2.2.2.2.2.2.2.2.2 _ i5 _ i6).mono fun e W' ⟨he, hx⟩ => ?_
  subst he
  have bel := hx.below
  exact ⟨_, rfl, _, _, _, [], _, [], hW', trodAll_mk1 (shut_bool Tryz.underlying4 _), (trodAll_cons_mk (Below.trod laidOut (by kernel_rfl) (of_decide_eq_true (by kernel_rfl)) h0 bel lt0) (trodAll_cons_mk (Below.trod laidOut (by kernel_rfl) (of_decide_eq_true (by kernel_rfl)) h1 bel lt1) (trodAll_cons_mk (Below.trod laidOut (by kernel_rfl) (of_decide_eq_true (by kernel_rfl)) h2 bel lt2) (trodAll_cons_mk (Below.trod laidOut (by kernel_rfl) (of_decide_eq_true (by kernel_rfl)) h3 bel lt3) (trodAll_cons_mk (Below.trod laidOut (by kernel_rfl) (of_decide_eq_true (by kernel_rfl)) h4 bel lt4) (trodAll_cons_mk (Below.trod laidOut (by kernel_rfl) (of_decide_eq_true (by kernel_rfl)) h5 bel lt5) (trodAll_cons_mk (Below.trod laidOut (by kernel_rfl) (of_decide_eq_true (by kernel_rfl)) h6 bel lt6) trodAll_mk0))))))), rfl, bel.frame _, fun h => by cases h⟩
theorem over : Rows.fnExactSendPacketRow.holds Tryz.pinned (OpenSpec.ofChange Rows.fnExactSendPacketSpec) :=
  OpenClaim.holds_of_wide 3 Tryz.f3 rfl rfl rfl rfl rfl rfl rfl ⟨rfl, rfl, rfl, rfl, rfl⟩ rfl rfl rfl rfl rfl (by kernel_rfl) Tryz.func3 (by kernel_rfl)
    (of_decide_eq_true (by kernel_rfl)) (by unfold Func.isWrapper; first | (rw [if_pos (by decide +kernel)]; kernel_rfl) | (rw [if_neg (by decide +kernel)]; exact ⟨rfl, rfl⟩))
    (fun os started H enc _ => lifted os started H enc)
theorem proved : Rows.FnExactSendPacketSaid := over
end Go.Proofs.YtnikopahkjmneaaGreat.lawFnExactSendPacket
