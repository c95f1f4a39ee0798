/- The statement Rows.FnExactAcceptedPacketsSaid is proved: whatever the input, the call of laws.FnExactAcceptedPackets returns true and leaves its arguments as they were. No condition. -/
import Derived.Test.YtihgekgkonacfaaRep
import Derived.Test.YtihgekgkonacfaaAccPL
namespace Go.Proofs.Ytihgekgkonacfaa.lawFnExactAcceptedPackets
open Go.ChangeShapes Go.WideShapes Go.ChangeAt Go.RowKit
open Go.ChangeMaps (open_string shut_string)
set_option linter.unusedVariables false

theorem own : ownKnob Try.prog.godebug = none := by kernel_rfl
theorem laidOut : laidOutB Try.prog = true := by kernel_rfl
theorem opens_int : Opens Try.prog 3 (Int) := Opens.int Try.underlying3 (by kernel_rfl)
theorem opens_bool : Opens Try.prog 4 (Bool) := Opens.bool Try.underlying4 (by kernel_rfl)
theorem opens_Sint : Opens Try.prog 28 (List Int) := Opens.slice Try.underlying28 (by kernel_rfl) opens_int
theorem opens_Filter : Opens Try.prog 48 (Int × Bool × List Int) := Opens.struct Try.underlying48 (by kernel_rfl) (.cons rfl opens_int (.cons rfl opens_bool (.one rfl opens_Sint)))
theorem opens_string : Opens Try.prog 9 (ByteArray) := Opens.string Try.underlying9 (by kernel_rfl)
theorem opens_Segment : Opens Try.prog 70 (Int × Int × Int × Int × Int × Int × Int × ByteArray) := Opens.struct Try.underlying70 (by kernel_rfl) (.cons rfl opens_int (.cons rfl opens_int (.cons rfl opens_int (.cons rfl opens_int (.cons rfl opens_int (.cons rfl opens_int (.cons rfl opens_int (.one rfl opens_string))))))))
theorem opens_Packet : Opens Try.prog 72 (Int × Int × Int × Int × Int × Int × Int × Int × (Int × Int × Int × Int × Int × Int × Int × ByteArray)) := Opens.struct Try.underlying72 (by kernel_rfl) (.cons rfl opens_int (.cons rfl opens_int (.cons rfl opens_int (.cons rfl opens_int (.cons rfl opens_int (.cons rfl opens_int (.cons rfl opens_int (.cons rfl opens_int (.one rfl opens_Segment)))))))))
theorem opens_SPacket : Opens Try.prog 49 (List (Int × Int × Int × Int × Int × Int × Int × Int × (Int × Int × Int × Int × Int × Int × Int × ByteArray))) := Opens.slice Try.underlying49 (by kernel_rfl) opens_Packet

set_option maxRecDepth 100000 in
theorem lifted (os : Os) (started : os.Started) (H : Type) (enc : TypeId × Value → H) :
    ReturnsInHanded {} Try.checked os 4 .any (Rows.fnExactAcceptedPacketsSpec.pre6 enc Try.prog Try.f4 Rows.fnExactAcceptedPacketsRow.domain false) (Rows.fnExactAcceptedPacketsSpec.post enc Try.prog Try.f4 false true false false) := by
  refine returnsInHanded_of_change (C := Try.checked) own started (by kernel_rfl) Try.func4
    (ChangeSpec.witness6 (enc := enc) (C := Try.checked) false ⟨#[], #[.agg #[.int .i64 0, .bool false, .slice none 0 0], .slice none 0 0], []⟩ 8 (by kernel_rfl) (by kernel_rfl) (by kernel_rfl) (by kernel_rfl)) ?_
  intro W base args ds gs before hval0 hW hcnd _
  have hval : ∀ (j : Nat) t v, Try.f4.params[j]? = some t → args[j]? = some v → Value.okWide Try.prog W .any base t v := hval0
  have hW' := hW
  obtain ⟨p, q, hA0, hV, rfl, hfz, hnd⟩ := hW
  have hA : DataW.TrodAll enc Try.prog W 0 (fun _ => true) true Try.f4.params.toList args.toList ds p := hA0
  rw [Try.params4] at hA hval
  obtain ⟨v0, vs0, d0, ds0, p0, q0, hargs, rfl, rfl, h0, r0⟩ := trodAll_cons hA
  obtain ⟨v1, vs1, d1, ds1, p1, q1, rfl, rfl, rfl, h1, r1⟩ := trodAll_cons r0
  obtain ⟨rfl, rfl, rfl⟩ := trodAll_nil r1
  obtain rfl : args = #[v0, v1] := by cases args; simp_all
  obtain ⟨rfl, rfl⟩ := trodVars_none hV
  have lt0 : ∀ x ∈ p0, x.block < W.heap.size := by obtain ⟨m, hm⟩ := h0; exact DataW.trod_lt m _ _ _ hm
  have lt1 : ∀ x ∈ p1, x.block < W.heap.size := by obtain ⟨m, hm⟩ := h1; exact DataW.trod_lt m _ _ _ hm
  obtain ⟨cs0, rfl, hz0⟩ := okWide_struct Try.underlying48 (hval 0 _ v0 rfl rfl)
  obtain ⟨x0, b0, t0⟩ : ∃ x : Int × Bool × List Int, Holds W x (Value.cells (.agg cs0)).toList := by obtain ⟨m, hm⟩ := h0; exact opens_Filter.2 enc W 0 true m _ _ hm
  obtain ⟨a1, len1, cap1, rfl⟩ := okWide_slice Try.underlying49 (hval 1 _ v1 rfl rfl)
  obtain ⟨x1, b1, t1⟩ : ∃ x : List (Int × Int × Int × Int × Int × Int × Int × Int × (Int × Int × Int × Int × Int × Int × Int × ByteArray)), Holds W x (Value.cells (.slice a1 len1 cap1)).toList := by obtain ⟨m, hm⟩ := h1; exact opens_SPacket.2 enc W 0 true m _ _ hm
  clear hA0 hval0
  refine (walk_FnExactAcceptedPackets W cs0 x0 ⟨b0, t0⟩ _ x1 ⟨b1, t1⟩).mono fun e W' ⟨he, hx⟩ => ?_
  subst he
  have bel := hx.below
  exact ⟨_, rfl, _, _, _, [], _, [], hW', trodAll_mk1 (shut_bool Try.underlying4 _), (trodAll_cons_mk (Below.trod laidOut (by kernel_rfl) (of_decide_eq_true (by kernel_rfl)) h0 bel lt0) (trodAll_cons_mk (Below.trod laidOut (by kernel_rfl) (of_decide_eq_true (by kernel_rfl)) h1 bel lt1) trodAll_mk0)), rfl, bel.frame _, fun h => by cases h⟩

theorem over : Rows.fnExactAcceptedPacketsRow.holds Try.pinned (OpenSpec.ofChange Rows.fnExactAcceptedPacketsSpec) :=
  OpenClaim.holds_of_wide 4 Try.f4 rfl rfl rfl rfl rfl rfl rfl ⟨rfl, rfl, rfl, rfl, rfl⟩ rfl rfl rfl rfl rfl (by kernel_rfl) Try.func4 (by kernel_rfl)
    (of_decide_eq_true (by kernel_rfl)) (by unfold Func.isWrapper; first | (rw [if_pos (by decide +kernel)]; kernel_rfl) | (rw [if_neg (by decide +kernel)]; exact ⟨rfl, rfl⟩))
    (fun os started H enc _ => lifted os started H enc)

theorem proved : Rows.FnExactAcceptedPacketsSaid := over
end Go.Proofs.Ytihgekgkonacfaa.lawFnExactAcceptedPackets
