/- The statement Rows.FnExactCompletionOkSaid is proved: whatever the input, the call of laws.FnExactCompletionOk returns true and leaves its arguments as they were. No condition. -/
import Derived.Test.YtkojpckjjflhaaaRep
import Derived.Test.YtkojpckjjflhaaaLaws1
namespace Go.Proofs.Ytkojpckjjflhaaa.lawFnExactCompletionOk
open Go.ChangeShapes Go.WideShapes Go.ChangeAt Go.RowKit
open Go.ChangeMaps (open_string shut_string)
set_option linter.unusedVariables false

theorem own : ownKnob Try.prog.godebug = none := by kernel_rfl
theorem laidOut : laidOutB Try.prog = true := by kernel_rfl
theorem opens_int : Opens Try.prog 3 (Int) := Opens.int Try.underlying3 (by kernel_rfl)
theorem opens_Completion : Opens Try.prog 31 (Int × Int × Int × Int × Int) := Opens.struct Try.underlying31 (by kernel_rfl) (.cons rfl opens_int (.cons rfl opens_int (.cons rfl opens_int (.cons rfl opens_int (.one rfl opens_int)))))

set_option maxRecDepth 100000 in
theorem lifted (os : Os) (started : os.Started) (H : Type) (enc : TypeId × Value → H) :
    ReturnsInHanded {} Try.checked os 5 .any (Rows.fnExactCompletionOkSpec.pre6 enc Try.prog Try.f5 Rows.fnExactCompletionOkRow.domain false) (Rows.fnExactCompletionOkSpec.post enc Try.prog Try.f5 false true false false) := by
  refine returnsInHanded_of_change (C := Try.checked) own started (by kernel_rfl) Try.func5
    (ChangeSpec.witness6 (enc := enc) (C := Try.checked) false ⟨#[], #[.agg #[.int .i64 0, .int .i64 0, .int .i64 0, .int .i64 0, .int .i64 0]], []⟩ 8 (by kernel_rfl) (by kernel_rfl) (by kernel_rfl) (by kernel_rfl)) ?_
  intro W base args ds gs before hval0 hW hcnd _
  have hval : ∀ (j : Nat) t v, Try.f5.params[j]? = some t → args[j]? = some v → Value.okWide Try.prog W .any base t v := hval0
  have hW' := hW
  obtain ⟨p, q, hA0, hV, rfl, hfz, hnd⟩ := hW
  have hA : DataW.TrodAll enc Try.prog W 0 (fun _ => true) true Try.f5.params.toList args.toList ds p := hA0
  rw [Try.params5] at hA hval
  obtain ⟨v0, vs0, d0, ds0, p0, q0, hargs, rfl, rfl, h0, r0⟩ := trodAll_cons hA
  obtain ⟨rfl, rfl, rfl⟩ := trodAll_nil r0
  obtain rfl : args = #[v0] := by cases args; simp_all
  obtain ⟨rfl, rfl⟩ := trodVars_none hV
  have lt0 : ∀ x ∈ p0, x.block < W.heap.size := by obtain ⟨m, hm⟩ := h0; exact DataW.trod_lt m _ _ _ hm
  obtain ⟨cs0, rfl, hz0⟩ := okWide_struct Try.underlying31 (hval 0 _ v0 rfl rfl)
  obtain ⟨⟨aX_Cookie, aX_Len, aX_Size, aX_Count, aX_Hash⟩, b0, t0⟩ : ∃ x : Int × Int × Int × Int × Int, Holds W x (Value.cells (.agg cs0)).toList := by obtain ⟨m, hm⟩ := h0; exact opens_Completion.2 enc W 0 true m _ _ hm
  have k0 : ∃ vs, vs = cs0.toList := ⟨_, rfl⟩
  obtain ⟨vs0, k0⟩ := k0
  simp only [Value.cells] at t0
  rw [← k0] at t0
  obtain ⟨_, _, _, _, rfl, _, ⟨rfl, _, haX_Cookie⟩, ⟨_, _, _, _, rfl, _, ⟨rfl, _, haX_Len⟩, ⟨_, _, _, _, rfl, _, ⟨rfl, _, haX_Size⟩, ⟨_, _, _, _, rfl, _, ⟨rfl, _, haX_Count⟩, ⟨rfl, _, haX_Hash⟩⟩⟩⟩⟩ := t0
  obtain rfl : cs0 = #[.int .i64 aX_Cookie, .int .i64 aX_Len, .int .i64 aX_Size, .int .i64 aX_Count, .int .i64 aX_Hash] := by cases cs0; simp_all
  clear hA0 hval0
  refine (walk_FnExactCompletionOk W aX_Cookie haX_Cookie aX_Len haX_Len aX_Size haX_Size aX_Count haX_Count aX_Hash haX_Hash).mono fun e W' ⟨he, hx⟩ => ?_
  subst he
  have bel := hx.below
  exact ⟨_, rfl, _, _, _, [], _, [], hW', trodAll_mk1 (shut_bool Try.underlying4 _), (trodAll_cons_mk (Below.trod laidOut (by kernel_rfl) (of_decide_eq_true (by kernel_rfl)) h0 bel lt0) trodAll_mk0), rfl, bel.frame _, fun h => by cases h⟩

theorem over : Rows.fnExactCompletionOkRow.holds Try.pinned (OpenSpec.ofChange Rows.fnExactCompletionOkSpec) :=
  OpenClaim.holds_of_wide 5 Try.f5 rfl rfl rfl rfl rfl rfl rfl ⟨rfl, rfl, rfl, rfl, rfl⟩ rfl rfl rfl rfl rfl (by kernel_rfl) Try.func5 (by kernel_rfl)
    (of_decide_eq_true (by kernel_rfl)) (by unfold Func.isWrapper; first | (rw [if_pos (by decide +kernel)]; kernel_rfl) | (rw [if_neg (by decide +kernel)]; exact ⟨rfl, rfl⟩))
    (fun os started H enc _ => lifted os started H enc)

theorem proved : Rows.FnExactCompletionOkSaid := over
end Go.Proofs.Ytkojpckjjflhaaa.lawFnExactCompletionOk
