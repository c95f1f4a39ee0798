/- The statement Rows.FnExactQueueOkSaid is proved: whatever the input, the call of laws.FnExactQueueOk returns true and leaves its arguments as they were. No condition. -/
import Derived.Test.YtkojpckjjflhaaaRep
import Derived.Test.YtkojpckjjflhaaaLaws1
namespace Go.Proofs.Ytkojpckjjflhaaa.lawFnExactQueueOk
open Go.ChangeShapes Go.WideShapes Go.ChangeAt Go.RowKit
open Go.ChangeMaps (open_string shut_string)
set_option linter.unusedVariables false

theorem own : ownKnob Try.prog.godebug = none := by kernel_rfl
theorem laidOut : laidOutB Try.prog = true := by kernel_rfl
theorem opens_int : Opens Try.prog 3 (Int) := Opens.int Try.underlying3 (by kernel_rfl)
theorem opens_CompletionQueue : Opens Try.prog 37 (Int × Int × Int) := Opens.struct Try.underlying37 (by kernel_rfl) (.cons rfl opens_int (.cons rfl opens_int (.one rfl opens_int)))

set_option maxRecDepth 100000 in
theorem lifted (os : Os) (started : os.Started) (H : Type) (enc : TypeId × Value → H) :
    ReturnsInHanded {} Try.checked os 6 .any (Rows.fnExactQueueOkSpec.pre6 enc Try.prog Try.f6 Rows.fnExactQueueOkRow.domain false) (Rows.fnExactQueueOkSpec.post enc Try.prog Try.f6 false true false false) := by
  refine returnsInHanded_of_change (C := Try.checked) own started (by kernel_rfl) Try.func6
    (ChangeSpec.witness6 (enc := enc) (C := Try.checked) false ⟨#[], #[.agg #[.int .i64 0, .int .i64 0, .int .i64 0]], []⟩ 8 (by kernel_rfl) (by kernel_rfl) (by kernel_rfl) (by kernel_rfl)) ?_
  intro W base args ds gs before hval0 hW hcnd _
  have hval : ∀ (j : Nat) t v, Try.f6.params[j]? = some t → args[j]? = some v → Value.okWide Try.prog W .any base t v := hval0
  have hW' := hW
  obtain ⟨p, q, hA0, hV, rfl, hfz, hnd⟩ := hW
  have hA : DataW.TrodAll enc Try.prog W 0 (fun _ => true) true Try.f6.params.toList args.toList ds p := hA0
  rw [Try.params6] at hA hval
  obtain ⟨v0, vs0, d0, ds0, p0, q0, hargs, rfl, rfl, h0, r0⟩ := trodAll_cons hA
  obtain ⟨rfl, rfl, rfl⟩ := trodAll_nil r0
  obtain rfl : args = #[v0] := by cases args; simp_all
  obtain ⟨rfl, rfl⟩ := trodVars_none hV
  have lt0 : ∀ x ∈ p0, x.block < W.heap.size := by obtain ⟨m, hm⟩ := h0; exact DataW.trod_lt m _ _ _ hm
  obtain ⟨cs0, rfl, hz0⟩ := okWide_struct Try.underlying37 (hval 0 _ v0 rfl rfl)
  obtain ⟨⟨aQ_Base, aQ_Size, aQ_Count⟩, b0, t0⟩ : ∃ x : Int × Int × Int, Holds W x (Value.cells (.agg cs0)).toList := by obtain ⟨m, hm⟩ := h0; exact opens_CompletionQueue.2 enc W 0 true m _ _ hm
  have k0 : ∃ vs, vs = cs0.toList := ⟨_, rfl⟩
  obtain ⟨vs0, k0⟩ := k0
  simp only [Value.cells] at t0
  rw [← k0] at t0
  obtain ⟨_, _, _, _, rfl, _, ⟨rfl, _, haQ_Base⟩, ⟨_, _, _, _, rfl, _, ⟨rfl, _, haQ_Size⟩, ⟨rfl, _, haQ_Count⟩⟩⟩ := t0
  obtain rfl : cs0 = #[.int .i64 aQ_Base, .int .i64 aQ_Size, .int .i64 aQ_Count] := by cases cs0; simp_all
  clear hA0 hval0
  refine (walk_FnExactQueueOk W aQ_Base haQ_Base aQ_Size haQ_Size aQ_Count haQ_Count).mono fun e W' ⟨he, hx⟩ => ?_
  subst he
  have bel := hx.below
  exact ⟨_, rfl, _, _, _, [], _, [], hW', trodAll_mk1 (shut_bool Try.underlying4 _), (trodAll_cons_mk (Below.trod laidOut (by kernel_rfl) (of_decide_eq_true (by kernel_rfl)) h0 bel lt0) trodAll_mk0), rfl, bel.frame _, fun h => by cases h⟩

theorem over : Rows.fnExactQueueOkRow.holds Try.pinned (OpenSpec.ofChange Rows.fnExactQueueOkSpec) :=
  OpenClaim.holds_of_wide 6 Try.f6 rfl rfl rfl rfl rfl rfl rfl ⟨rfl, rfl, rfl, rfl, rfl⟩ rfl rfl rfl rfl rfl (by kernel_rfl) Try.func6 (by kernel_rfl)
    (of_decide_eq_true (by kernel_rfl)) (by unfold Func.isWrapper; first | (rw [if_pos (by decide +kernel)]; kernel_rfl) | (rw [if_neg (by decide +kernel)]; exact ⟨rfl, rfl⟩))
    (fun os started H enc _ => lifted os started H enc)

theorem proved : Rows.FnExactQueueOkSaid := over
end Go.Proofs.Ytkojpckjjflhaaa.lawFnExactQueueOk
