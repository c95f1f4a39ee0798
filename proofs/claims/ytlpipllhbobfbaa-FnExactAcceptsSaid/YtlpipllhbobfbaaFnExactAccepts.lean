/- The statement Rows.FnExactAcceptsSaid is proved: whatever the input, the call of laws.FnExactAccepts returns true and leaves its arguments as they were. No condition. -/
import Derived.Test.YtlpipllhbobfbaaRep
import Derived.Test.YtlpipllhbobfbaaAccL
namespace Go.Proofs.Ytlpipllhbobfbaa.lawFnExactAccepts
open Go.ChangeShapes Go.WideShapes Go.ChangeAt Go.RowKit
open Go.ChangeMaps (open_string shut_string)
set_option linter.unusedVariables false

theorem own : ownKnob Try.prog.godebug = none := by kernel_rfl
theorem laidOut : laidOutB Try.prog = true := by kernel_rfl
theorem opens_int : Opens Try.prog 3 (Int) := Opens.int Try.underlying3 (by kernel_rfl)
theorem opens_bool : Opens Try.prog 4 (Bool) := Opens.bool Try.underlying4 (by kernel_rfl)
theorem opens_Sint : Opens Try.prog 33 (List Int) := Opens.slice Try.underlying33 (by kernel_rfl) opens_int
theorem opens_Filter : Opens Try.prog 50 (Int × Bool × List Int) := Opens.struct Try.underlying50 (by kernel_rfl) (.cons rfl opens_int (.cons rfl opens_bool (.one rfl opens_Sint)))
theorem opens_string : Opens Try.prog 9 (ByteArray) := Opens.string Try.underlying9 (by kernel_rfl)
theorem opens_Segment : Opens Try.prog 52 (Int × Int × Int × Int × Int × Int × Int × ByteArray) := Opens.struct Try.underlying52 (by kernel_rfl) (.cons rfl opens_int (.cons rfl opens_int (.cons rfl opens_int (.cons rfl opens_int (.cons rfl opens_int (.cons rfl opens_int (.cons rfl opens_int (.one rfl opens_string))))))))
theorem opens_Packet : Opens Try.prog 54 (Int × Int × Int × Int × Int × Int × Int × Int × (Int × Int × Int × Int × Int × Int × Int × ByteArray)) := Opens.struct Try.underlying54 (by kernel_rfl) (.cons rfl opens_int (.cons rfl opens_int (.cons rfl opens_int (.cons rfl opens_int (.cons rfl opens_int (.cons rfl opens_int (.cons rfl opens_int (.cons rfl opens_int (.one rfl opens_Segment)))))))))

set_option maxRecDepth 100000 in
theorem lifted (os : Os) (started : os.Started) (H : Type) (enc : TypeId × Value → H) :
    ReturnsInHanded {} Try.checked os 7 .any (Rows.fnExactAcceptsSpec.pre6 enc Try.prog Try.f7 Rows.fnExactAcceptsRow.domain false) (Rows.fnExactAcceptsSpec.post enc Try.prog Try.f7 false true false false) := by
  refine returnsInHanded_of_change (C := Try.checked) own started (by kernel_rfl) Try.func7
    (ChangeSpec.witness6 (enc := enc) (C := Try.checked) false ⟨#[], #[.agg #[.int .i64 0, .bool false, .slice none 0 0], .agg #[.int .i64 0, .int .i64 0, .int .i64 0, .int .i64 0, .int .i64 0, .int .i64 0, .int .i64 0, .int .i64 0, .int .i64 0, .int .i64 0, .int .i64 0, .int .i64 0, .int .i64 0, .int .i64 0, .int .i64 0, .string ⟨#[]⟩]], []⟩ 8 (by kernel_rfl) (by kernel_rfl) (by kernel_rfl) (by kernel_rfl)) ?_
  intro W base args ds gs before hval0 hW hcnd _
  have hval : ∀ (j : Nat) t v, Try.f7.params[j]? = some t → args[j]? = some v → Value.okWide Try.prog W .any base t v := hval0
  have hW' := hW
  obtain ⟨p, q, hA0, hV, rfl, hfz, hnd⟩ := hW
  have hA : DataW.TrodAll enc Try.prog W 0 (fun _ => true) true Try.f7.params.toList args.toList ds p := hA0
  rw [Try.params7] at hA hval
  obtain ⟨v0, vs0, d0, ds0, p0, q0, hargs, rfl, rfl, h0, r0⟩ := trodAll_cons hA
  obtain ⟨v1, vs1, d1, ds1, p1, q1, rfl, rfl, rfl, h1, r1⟩ := trodAll_cons r0
  obtain ⟨rfl, rfl, rfl⟩ := trodAll_nil r1
  obtain rfl : args = #[v0, v1] := by cases args; simp_all
  obtain ⟨rfl, rfl⟩ := trodVars_none hV
  have lt0 : ∀ x ∈ p0, x.block < W.heap.size := by obtain ⟨m, hm⟩ := h0; exact DataW.trod_lt m _ _ _ hm
  have lt1 : ∀ x ∈ p1, x.block < W.heap.size := by obtain ⟨m, hm⟩ := h1; exact DataW.trod_lt m _ _ _ hm
  obtain ⟨cs0, rfl, hz0⟩ := okWide_struct Try.underlying50 (hval 0 _ v0 rfl rfl)
  obtain ⟨x0, b0, t0⟩ : ∃ x : Int × Bool × List Int, Holds W x (Value.cells (.agg cs0)).toList := by obtain ⟨m, hm⟩ := h0; exact opens_Filter.2 enc W 0 true m _ _ hm
  obtain ⟨cs1, rfl, hz1⟩ := okWide_struct Try.underlying54 (hval 1 _ v1 rfl rfl)
  obtain ⟨⟨aP_DstMac, aP_SrcMac, aP_Vlan, aP_Tos, aP_Id, aP_Ttl, aP_SrcIp, aP_DstIp, ⟨aP_Seg_Kind, aP_Seg_SrcPort, aP_Seg_DstPort, aP_Seg_Seq, aP_Seg_Ack, aP_Seg_Flags, aP_Seg_Window, aP_Seg_Body⟩⟩, b1, t1⟩ : ∃ x : Int × Int × Int × Int × Int × Int × Int × Int × (Int × Int × Int × Int × Int × Int × Int × ByteArray), Holds W x (Value.cells (.agg cs1)).toList := by obtain ⟨m, hm⟩ := h1; exact opens_Packet.2 enc W 0 true m _ _ hm
  have k1 : ∃ vs, vs = cs1.toList := ⟨_, rfl⟩
  obtain ⟨vs1, k1⟩ := k1
  simp only [Value.cells] at t1
  rw [← k1] at t1
  obtain ⟨_, _, _, _, rfl, _, ⟨rfl, _, haP_DstMac⟩, ⟨_, _, _, _, rfl, _, ⟨rfl, _, haP_SrcMac⟩, ⟨_, _, _, _, rfl, _, ⟨rfl, _, haP_Vlan⟩, ⟨_, _, _, _, rfl, _, ⟨rfl, _, haP_Tos⟩, ⟨_, _, _, _, rfl, _, ⟨rfl, _, haP_Id⟩, ⟨_, _, _, _, rfl, _, ⟨rfl, _, haP_Ttl⟩, ⟨_, _, _, _, rfl, _, ⟨rfl, _, haP_SrcIp⟩, ⟨_, _, _, _, rfl, _, ⟨rfl, _, haP_DstIp⟩, ⟨_, _, _, _, rfl, _, ⟨rfl, _, haP_Seg_Kind⟩, ⟨_, _, _, _, rfl, _, ⟨rfl, _, haP_Seg_SrcPort⟩, ⟨_, _, _, _, rfl, _, ⟨rfl, _, haP_Seg_DstPort⟩, ⟨_, _, _, _, rfl, _, ⟨rfl, _, haP_Seg_Seq⟩, ⟨_, _, _, _, rfl, _, ⟨rfl, _, haP_Seg_Ack⟩, ⟨_, _, _, _, rfl, _, ⟨rfl, _, haP_Seg_Flags⟩, ⟨_, _, _, _, rfl, _, ⟨rfl, _, haP_Seg_Window⟩, ⟨rfl, _, haP_Seg_Body⟩⟩⟩⟩⟩⟩⟩⟩⟩⟩⟩⟩⟩⟩⟩⟩ := t1
  obtain rfl : cs1 = #[.int .i64 aP_DstMac, .int .i64 aP_SrcMac, .int .i64 aP_Vlan, .int .i64 aP_Tos, .int .i64 aP_Id, .int .i64 aP_Ttl, .int .i64 aP_SrcIp, .int .i64 aP_DstIp, .int .i64 aP_Seg_Kind, .int .i64 aP_Seg_SrcPort, .int .i64 aP_Seg_DstPort, .int .i64 aP_Seg_Seq, .int .i64 aP_Seg_Ack, .int .i64 aP_Seg_Flags, .int .i64 aP_Seg_Window, .string aP_Seg_Body] := by cases cs1; simp_all
  clear hA0 hval0
  refine (walk_FnExactAccepts W cs0 x0 ⟨b0, t0⟩ aP_DstMac haP_DstMac aP_SrcMac haP_SrcMac aP_Vlan haP_Vlan aP_Tos haP_Tos aP_Id haP_Id aP_Ttl haP_Ttl aP_SrcIp haP_SrcIp aP_DstIp haP_DstIp aP_Seg_Kind haP_Seg_Kind aP_Seg_SrcPort haP_Seg_SrcPort aP_Seg_DstPort haP_Seg_DstPort aP_Seg_Seq haP_Seg_Seq aP_Seg_Ack haP_Seg_Ack aP_Seg_Flags haP_Seg_Flags aP_Seg_Window haP_Seg_Window aP_Seg_Body haP_Seg_Body).mono fun e W' ⟨he, hx⟩ => ?_
  subst he
  have bel := hx.below
  exact ⟨_, rfl, _, _, _, [], _, [], hW', trodAll_mk1 (shut_bool Try.underlying4 _), (trodAll_cons_mk (Below.trod laidOut (by kernel_rfl) (of_decide_eq_true (by kernel_rfl)) h0 bel lt0) (trodAll_cons_mk (Below.trod laidOut (by kernel_rfl) (of_decide_eq_true (by kernel_rfl)) h1 bel lt1) trodAll_mk0)), rfl, bel.frame _, fun h => by cases h⟩

theorem over : Rows.fnExactAcceptsRow.holds Try.pinned (OpenSpec.ofChange Rows.fnExactAcceptsSpec) :=
  OpenClaim.holds_of_wide 7 Try.f7 rfl rfl rfl rfl rfl rfl rfl ⟨rfl, rfl, rfl, rfl, rfl⟩ rfl rfl rfl rfl rfl (by kernel_rfl) Try.func7 (by kernel_rfl)
    (of_decide_eq_true (by kernel_rfl)) (by unfold Func.isWrapper; first | (rw [if_pos (by decide +kernel)]; kernel_rfl) | (rw [if_neg (by decide +kernel)]; exact ⟨rfl, rfl⟩))
    (fun os started H enc _ => lifted os started H enc)

theorem proved : Rows.FnExactAcceptsSaid := over
end Go.Proofs.Ytlpipllhbobfbaa.lawFnExactAccepts
