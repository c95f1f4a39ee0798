/- The statement Rows.FnExactTransmitAllSaid is proved: whatever the input, the call of laws.FnExactTransmitAll returns true and leaves its arguments as they were. No condition. -/
import Derived.Test.YtgbjkojgjhcabaaGreatMFnExactTransmitAlle
namespace Go.Proofs.YtgbjkojgjhcabaaGreat.lawFnExactTransmitAll
open Go.ChangeShapes Go.WideShapes Go.ChangeAt Go.RowKit
open Go.ChangeMaps (open_string shut_string)
set_option linter.unusedVariables false
theorem own : ownKnob Tryz.prog.godebug = none := by kernel_rfl
theorem laidOut : laidOutB Tryz.prog = true := by kernel_rfl
theorem opens_int : Opens Tryz.prog 3 (Int) := Opens.int Tryz.underlying3 (by kernel_rfl)
theorem opens_bool : Opens Tryz.prog 4 (Bool) := Opens.bool Tryz.underlying4 (by kernel_rfl)
theorem opens_Mapping : Opens Tryz.prog 103 (Int × Int × Int × Bool) := Opens.struct Tryz.underlying103 (by kernel_rfl) (.cons rfl opens_int (.cons rfl opens_int (.cons rfl opens_int (.one rfl opens_bool))))
theorem opens_SMapping : Opens Tryz.prog 22 (List (Int × Int × Int × Bool)) := Opens.slice Tryz.underlying22 (by kernel_rfl) opens_Mapping
theorem opens_string : Opens Tryz.prog 9 (ByteArray) := Opens.string Tryz.underlying9 (by kernel_rfl)
theorem opens_Sstring : Opens Tryz.prog 23 (List ByteArray) := Opens.slice Tryz.underlying23 (by kernel_rfl) opens_string
theorem opens_Memory : Opens Tryz.prog 25 (List ByteArray) := Opens.struct Tryz.underlying25 (by kernel_rfl) (.one rfl opens_Sstring)
theorem opens_Ring : Opens Tryz.prog 27 (Int × Int × Int × Int) := Opens.struct Tryz.underlying27 (by kernel_rfl) (.cons rfl opens_int (.cons rfl opens_int (.cons rfl opens_int (.one rfl opens_int))))
set_option maxRecDepth 100000 in
set_option maxHeartbeats 8000000 in
theorem lifted (os : Os) (started : os.Started) (H : Type) (enc : TypeId × Value → H) :
    ReturnsInHanded {} Tryz.checked os 4 .any (Rows.fnExactTransmitAllSpec.pre6 enc Tryz.prog Tryz.f4 Rows.fnExactTransmitAllRow.domain false) (Rows.fnExactTransmitAllSpec.post enc Tryz.prog Tryz.f4 false true false false) := by
  refine returnsInHanded_of_change (C := Tryz.checked) own started (by kernel_rfl) Tryz.func4
    (ChangeSpec.witness6 (enc := enc) (C := Tryz.checked) false ⟨#[], #[.slice none 0 0, .agg #[.slice none 0 0], .int .i64 0, .agg #[.int .i64 0, .int .i64 0, .int .i64 0, .int .i64 0]], []⟩ 8 (by kernel_rfl) (by kernel_rfl) (by kernel_rfl) (by kernel_rfl)) ?_
  intro W base args ds gs before hval0 hW hcnd _
  have hval : ∀ (j : Nat) t v, Tryz.f4.params[j]? = some t → args[j]? = some v → Value.okWide Tryz.prog W .any base t v := hval0
  have hW' := hW
  obtain ⟨p, q, hA0, hV, rfl, hfz, hnd⟩ := hW
  have hA : DataW.TrodAll enc Tryz.prog W 0 (fun _ => true) true Tryz.f4.params.toList args.toList ds p := hA0
  rw [Tryz.params4] at hA hval
  obtain ⟨v0, vs0, d0, ds0, p0, q0, hargs, rfl, rfl, h0, r0⟩ := trodAll_cons hA
  obtain ⟨v1, vs1, d1, ds1, p1, q1, rfl, rfl, rfl, h1, r1⟩ := trodAll_cons r0
  obtain ⟨v2, vs2, d2, ds2, p2, q2, rfl, rfl, rfl, h2, r2⟩ := trodAll_cons r1
  obtain ⟨v3, vs3, d3, ds3, p3, q3, rfl, rfl, rfl, h3, r3⟩ := trodAll_cons r2
  obtain ⟨rfl, rfl, rfl⟩ := trodAll_nil r3
  obtain rfl : args = #[v0, v1, v2, v3] := by cases args; simp_all
  obtain ⟨rfl, rfl⟩ := trodVars_none hV
  have lt0 : ∀ x ∈ p0, x.block < W.heap.size := by obtain ⟨m, hm⟩ := h0; exact DataW.trod_lt m _ _ _ hm
  have lt1 : ∀ x ∈ p1, x.block < W.heap.size := by obtain ⟨m, hm⟩ := h1; exact DataW.trod_lt m _ _ _ hm
  have lt2 : ∀ x ∈ p2, x.block < W.heap.size := by obtain ⟨m, hm⟩ := h2; exact DataW.trod_lt m _ _ _ hm
  have lt3 : ∀ x ∈ p3, x.block < W.heap.size := by obtain ⟨m, hm⟩ := h3; exact DataW.trod_lt m _ _ _ hm
  obtain ⟨a0, len0, cap0, rfl⟩ := okWide_slice Tryz.underlying22 (hval 0 _ v0 rfl rfl)
  obtain ⟨x0, b0, t0⟩ : ∃ x : List (Int × Int × Int × Bool), Holds W x (Value.cells (.slice a0 len0 cap0)).toList := by obtain ⟨m, hm⟩ := h0; exact opens_SMapping.2 enc W 0 true m _ _ hm
  obtain ⟨cs1, rfl, hz1⟩ := okWide_struct Tryz.underlying25 (hval 1 _ v1 rfl rfl)
  obtain ⟨x1, b1, t1⟩ : ∃ x : List ByteArray, Holds W x (Value.cells (.agg cs1)).toList := by obtain ⟨m, hm⟩ := h1; exact opens_Memory.2 enc W 0 true m _ _ hm
  obtain ⟨c2, rfl⟩ := okWide_int Tryz.underlying3 (hval 2 _ v2 rfl rfl)
  obtain ⟨x2, b2, t2⟩ : ∃ x : Int, Holds W x (Value.cells (.int .i64 c2)).toList := by obtain ⟨m, hm⟩ := h2; exact opens_int.2 enc W 0 true m _ _ hm
  simp only [Value.cells] at t2
  obtain ⟨e2, _, i2⟩ := t2
  simp at e2; subst e2
  obtain ⟨cs3, rfl, hz3⟩ := okWide_struct Tryz.underlying27 (hval 3 _ v3 rfl rfl)
  obtain ⟨⟨aR_Base, aR_Size, aR_Head, aR_Tail⟩, b3, t3⟩ : ∃ x : Int × Int × Int × Int, Holds W x (Value.cells (.agg cs3)).toList := by obtain ⟨m, hm⟩ := h3; exact opens_Ring.2 enc W 0 true m _ _ hm
  have k3 : ∃ vs, vs = cs3.toList := ⟨_, rfl⟩
  obtain ⟨vs3, k3⟩ := k3
  simp only [Value.cells] at t3
  rw [← k3] at t3
  obtain ⟨_, _, _, _, rfl, _, ⟨rfl, _, haR_Base⟩, ⟨_, _, _, _, rfl, _, ⟨rfl, _, haR_Size⟩, ⟨_, _, _, _, rfl, _, ⟨rfl, _, haR_Head⟩, ⟨rfl, _, haR_Tail⟩⟩⟩⟩ := t3
  obtain rfl : cs3 = #[.int .i64 aR_Base, .int .i64 aR_Size, .int .i64 aR_Head, .int .i64 aR_Tail] := by cases cs3; simp_all
  clear hA0 hval0
  refine (walk_FnExactTransmitAll W _ x0 ⟨b0, t0⟩ cs1 x1 ⟨b1, t1⟩ _ i2 aR_Base haR_Base aR_Size haR_Size aR_Head haR_Head aR_Tail haR_Tail).mono fun e W' ⟨he, hx⟩ => ?_
  subst he
  have bel := hx.below
  exact ⟨_, rfl, _, _, _, [], _, [], hW', trodAll_mk1 (shut_bool Tryz.underlying4 _), (trodAll_cons_mk (Below.trod laidOut (by kernel_rfl) (of_decide_eq_true (by kernel_rfl)) h0 bel lt0) (trodAll_cons_mk (Below.trod laidOut (by kernel_rfl) (of_decide_eq_true (by kernel_rfl)) h1 bel lt1) (trodAll_cons_mk (Below.trod laidOut (by kernel_rfl) (of_decide_eq_true (by kernel_rfl)) h2 bel lt2) (trodAll_cons_mk (Below.trod laidOut (by kernel_rfl) (of_decide_eq_true (by kernel_rfl)) h3 bel lt3) trodAll_mk0)))), rfl, bel.frame _, fun h => by cases h⟩
theorem over : Rows.fnExactTransmitAllRow.holds Tryz.pinned (OpenSpec.ofChange Rows.fnExactTransmitAllSpec) :=
  OpenClaim.holds_of_wide 4 Tryz.f4 rfl rfl rfl rfl rfl rfl rfl ⟨rfl, rfl, rfl, rfl, rfl⟩ rfl rfl rfl rfl rfl (by kernel_rfl) Tryz.func4 (by kernel_rfl)
    (of_decide_eq_true (by kernel_rfl)) (by unfold Func.isWrapper; first | (rw [if_pos (by decide +kernel)]; kernel_rfl) | (rw [if_neg (by decide +kernel)]; exact ⟨rfl, rfl⟩))
    (fun os started H enc _ => lifted os started H enc)
theorem proved : Rows.FnExactTransmitAllSaid := over
end Go.Proofs.YtgbjkojgjhcabaaGreat.lawFnExactTransmitAll
