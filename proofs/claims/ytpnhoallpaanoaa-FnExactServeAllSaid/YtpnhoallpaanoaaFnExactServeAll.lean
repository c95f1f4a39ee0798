/- The statement Rows.FnExactServeAllSaid is proved: whatever the input, the call of laws.FnExactServeAll returns true and leaves its arguments as they were. No condition. -/
import Derived.Test.YtpnhoallpaanoaaRep
import Derived.Test.YtpnhoallpaanoaaSAL
namespace Go.Proofs.Ytpnhoallpaanoaa.lawFnExactServeAll
open Go.ChangeShapes Go.WideShapes Go.ChangeAt Go.RowKit
open Go.ChangeMaps (open_string shut_string)
set_option linter.unusedVariables false

theorem own : ownKnob Try.prog.godebug = none := by kernel_rfl
theorem laidOut : laidOutB Try.prog = true := by kernel_rfl
theorem opens_int : Opens Try.prog 3 (Int) := Opens.int Try.underlying3 (by kernel_rfl)
theorem opens_Sint : Opens Try.prog 24 (List Int) := Opens.slice Try.underlying24 (by kernel_rfl) opens_int
theorem opens_SSint : Opens Try.prog 36 (List (List Int)) := Opens.slice Try.underlying36 (by kernel_rfl) opens_Sint
theorem opens_bool : Opens Try.prog 4 (Bool) := Opens.bool Try.underlying4 (by kernel_rfl)
theorem opens_Fair : Opens Try.prog 46 (List (List Int) × List Int × Int × Int × Bool) := Opens.struct Try.underlying46 (by kernel_rfl) (.cons rfl opens_SSint (.cons rfl opens_Sint (.cons rfl opens_int (.cons rfl opens_int (.one rfl opens_bool)))))

set_option maxRecDepth 100000 in
theorem lifted (os : Os) (started : os.Started) (H : Type) (enc : TypeId × Value → H) :
    ReturnsInHanded {} Try.checked os 8 .any (Rows.fnExactServeAllSpec.pre6 enc Try.prog Try.f8 Rows.fnExactServeAllRow.domain false) (Rows.fnExactServeAllSpec.post enc Try.prog Try.f8 false true false false) := by
  refine returnsInHanded_of_change (C := Try.checked) own started (by kernel_rfl) Try.func8
    (ChangeSpec.witness6 (enc := enc) (C := Try.checked) false ⟨#[], #[.agg #[.slice none 0 0, .slice none 0 0, .int .i64 0, .int .i64 0, .bool false], .int .i64 0], []⟩ 8 (by kernel_rfl) (by kernel_rfl) (by kernel_rfl) (by kernel_rfl)) ?_
  intro W base args ds gs before hval0 hW hcnd _
  have hval : ∀ (j : Nat) t v, Try.f8.params[j]? = some t → args[j]? = some v → Value.okWide Try.prog W .any base t v := hval0
  have hW' := hW
  obtain ⟨p, q, hA0, hV, rfl, hfz, hnd⟩ := hW
  have hA : DataW.TrodAll enc Try.prog W 0 (fun _ => true) true Try.f8.params.toList args.toList ds p := hA0
  rw [Try.params8] at hA hval
  obtain ⟨v0, vs0, d0, ds0, p0, q0, hargs, rfl, rfl, h0, r0⟩ := trodAll_cons hA
  obtain ⟨v1, vs1, d1, ds1, p1, q1, rfl, rfl, rfl, h1, r1⟩ := trodAll_cons r0
  obtain ⟨rfl, rfl, rfl⟩ := trodAll_nil r1
  obtain rfl : args = #[v0, v1] := by cases args; simp_all
  obtain ⟨rfl, rfl⟩ := trodVars_none hV
  have lt0 : ∀ x ∈ p0, x.block < W.heap.size := by obtain ⟨m, hm⟩ := h0; exact DataW.trod_lt m _ _ _ hm
  have lt1 : ∀ x ∈ p1, x.block < W.heap.size := by obtain ⟨m, hm⟩ := h1; exact DataW.trod_lt m _ _ _ hm
  obtain ⟨cs0, rfl, hz0⟩ := okWide_struct Try.underlying46 (hval 0 _ v0 rfl rfl)
  obtain ⟨x0, b0, t0⟩ : ∃ x : List (List Int) × List Int × Int × Int × Bool, Holds W x (Value.cells (.agg cs0)).toList := by obtain ⟨m, hm⟩ := h0; exact opens_Fair.2 enc W 0 true m _ _ hm
  obtain ⟨c1, rfl⟩ := okWide_int Try.underlying3 (hval 1 _ v1 rfl rfl)
  obtain ⟨x1, b1, t1⟩ : ∃ x : Int, Holds W x (Value.cells (.int .i64 c1)).toList := by obtain ⟨m, hm⟩ := h1; exact opens_int.2 enc W 0 true m _ _ hm
  simp only [Value.cells] at t1
  obtain ⟨e1, _, i1⟩ := t1
  simp at e1; subst e1
  clear hA0 hval0
  refine (walk_FnExactServeAll W cs0 x0 ⟨b0, t0⟩ _ i1).mono fun e W' ⟨he, hx⟩ => ?_
  subst he
  have bel := hx.below
  exact ⟨_, rfl, _, _, _, [], _, [], hW', trodAll_mk1 (shut_bool Try.underlying4 _), (trodAll_cons_mk (Below.trod laidOut (by kernel_rfl) (of_decide_eq_true (by kernel_rfl)) h0 bel lt0) (trodAll_cons_mk (Below.trod laidOut (by kernel_rfl) (of_decide_eq_true (by kernel_rfl)) h1 bel lt1) trodAll_mk0)), rfl, bel.frame _, fun h => by cases h⟩

theorem over : Rows.fnExactServeAllRow.holds Try.pinned (OpenSpec.ofChange Rows.fnExactServeAllSpec) :=
  OpenClaim.holds_of_wide 8 Try.f8 rfl rfl rfl rfl rfl rfl rfl ⟨rfl, rfl, rfl, rfl, rfl⟩ rfl rfl rfl rfl rfl (by kernel_rfl) Try.func8 (by kernel_rfl)
    (of_decide_eq_true (by kernel_rfl)) (by unfold Func.isWrapper; first | (rw [if_pos (by decide +kernel)]; kernel_rfl) | (rw [if_neg (by decide +kernel)]; exact ⟨rfl, rfl⟩))
    (fun os started H enc _ => lifted os started H enc)

theorem proved : Rows.FnExactServeAllSaid := over
end Go.Proofs.Ytpnhoallpaanoaa.lawFnExactServeAll
