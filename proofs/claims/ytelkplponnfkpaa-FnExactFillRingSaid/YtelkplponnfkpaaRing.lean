/- Rings: how many slots are free, a slot's address, an entry put and taken: the program and the reference. -/
import Derived.Test.YtelkplponnfkpaaRows
import Derived.Test.YtelkplponnfkpaaMemG
import Derived.Test.YtelkplponnfkpaaRx2
import Derived.Test.YtelkplponnfkpaaTk
namespace Go.Proofs.Ytelkplponnfkpaa
open Go.RowKit
set_option linter.unusedVariables false
set_option linter.unusedSimpArgs false

theorem ringOk_facts {b s h t : Int} (q : ringOkB b s h t = true) : sizeB s = true ∧ 0 ≤ b ∧ b ≤ 130944 ∧ 2 ≤ s ∧ s ≤ 16 ∧ 0 ≤ h ∧ h ≤ 2 * s - 1 ∧ 0 ≤ t ∧ t ≤ 2 * s - 1 ∧ (t - h) % (2 * s) ≤ s ∧ 0 ≤ (t - h) % (2 * s) := by
  simp only [ringOkB, Bool.and_eq_true, inB_iff, decide_eq_true_eq] at q
  obtain ⟨⟨⟨⟨⟨h1, h2⟩, h3⟩, h4, h5⟩, h6, h7⟩, h8⟩ := q
  have h9 := sizeB_cases h3
  exact ⟨h3, h1, h2, by omega, by omega, h4, h5, h6, h7, h8, Int.emod_nonneg _ (by omega)⟩
def usedF (s h t : Int) : Int := (t - h) % (2 * s)
def freeF (b s h t : Int) : Int := if ringOkB b s h t then s - (t - h) % (2 * s) else 0
def rslot (b s k : Int) : Int := b + k % s * 16
def rnext (s k : Int) : Int := (k + 1) % (2 * s)
theorem freeF_ok {b s h t : Int} (q : ¬ freeF b s h t = 0) : ringOkB b s h t = true := by
  unfold freeF at q
  split at q
  · assumption
  · exact (q rfl).elim
theorem rslot_bd {b s h t : Int} (q : ringOkB b s h t = true) (k : Int) : 0 ≤ rslot b s k ∧ rslot b s k ≤ 131184 := by
  obtain ⟨_, h1, h2, h3, h4, _⟩ := ringOk_facts q
  unfold rslot
  have := Int.emod_nonneg k (show s ≠ 0 by omega)
  have := Int.emod_lt_of_pos k (show 0 < s by omega)
  omega
def rputF (l : List Mp) (ps : Pg) (d b s h t : Int) (e : ByteArray) : Pg × Int × Bool :=
  if freeF b s h t = 0 then (ps, t, false) else if e.size = 16 then match dmaWF l ps d (rslot b s t) e true with
    | (qs, true) => (qs, rnext s t, true)
    | (_, false) => (ps, t, false)
  else (ps, t, false)
def rtakeF (l : List Mp) (ps : Pg) (d b s h t : Int) : ByteArray × Int × Bool :=
  if ringOkB b s h t then if usedF s h t = 0 then (⟨#[]⟩, h, false) else match dmaRF l ps d (rslot b s h) 16 with
    | (x, true) => (x, rnext s h, true)
    | (_, false) => (⟨#[]⟩, h, false)
  else (⟨#[]⟩, h, false)

set_option maxRecDepth 100000 in
set_option maxHeartbeats 4000000 in
theorem ringFree_any (b s h t : Int) (w : World) :
    Calls Try.prog 141 #[.agg #[.int .i64 b, .int .i64 s, .int .i64 h, .int .i64 t]] w fun e w' => e = .returned (.int .i64 (freeF b s h t)) ∧ Ex w w' := by
  cases hq : ringOkB b s h t
  case false =>
    have HM : Hid (freeF b s h t = 0) := hid (by unfold freeF; rw [hq]; rfl)
    have HQ := hid hq
    clear hq
    have HS := St.start w
    go_enter Try.func141, Try.ntmps141
    go_wp2_with (first
          | (go_at_call 87; (with_reducible refine (ringOk_any b s h t _).mono ?_); rintro e w' ⟨rfl, hx⟩; rw [HQ.out]; replace HS := HS.grow hx; clear hx)
          | ((with_reducible (show wpList _ _ _ (Oper.mk (some 1) (Op.box _ _) _ _ _ _ :: _) _ _)); refine wpList_box_st (o := ⟨some 1, .box _ _, _, _, _, _⟩) rfl _ _ rfl (v := .agg (List.toArray _)) rfl HS ?_; clear HS; intro w1 b1 hb1 HS; simp only [Value.cells] at HS)
          | ((with_reducible (show wpList _ _ _ (Oper.mk (some 3) (Op.load _ _) _ _ _ _ :: _) _ _)); refine wpList_loadA_st (o := ⟨some 3, .load _ _, _, _, _, _⟩) rfl _ _ rfl rfl HS tk ag_impl_Ring lit rfl ?_))
    go_ret
    exact ⟨ret_int HM.out.symm, HS.ex⟩
  case true =>
    have HM : Hid (freeF b s h t = s - (t - h) % (2 * s)) := hid (by unfold freeF; rw [hq]; rfl)
    have HQ := hid hq
    obtain ⟨hs, b0, b1, s0, s1, h0, h1, t0, t1, u1, u0⟩ := ringOk_facts hq
    have HZ := hid hs
    clear hs hq
    have HS := St.start w
    go_enter Try.func141, Try.ntmps141
    go_wp2_with (first
          | (go_at_call 87; (with_reducible refine (ringOk_any b s h t _).mono ?_); rintro e w' ⟨rfl, hx⟩; rw [HQ.out]; replace HS := HS.grow hx; clear hx)
          | ((with_reducible (show wpList _ _ _ (Oper.mk (some 1) (Op.box _ _) _ _ _ _ :: _) _ _)); refine wpList_box_st (o := ⟨some 1, .box _ _, _, _, _, _⟩) rfl _ _ rfl (v := .agg (List.toArray _)) rfl HS ?_; clear HS; intro w1 b1 hb1 HS; simp only [Value.cells] at HS)
          | ((with_reducible (show wpList _ _ _ (Oper.mk (some 3) (Op.load _ _) _ _ _ _ :: _) _ _)); refine wpList_loadA_st (o := ⟨some 3, .load _ _, _, _, _, _⟩) rfl _ _ rfl rfl HS tk ag_impl_Ring lit rfl ?_))
    refine wp_region_plan_st HS (.early 0 (.early 1 (.forced 2 1 (.forced 3 1 (.forced 4 2 (.forced 5 2 .done)))))) (by kernel_rfl) (by as_aux_lemma => kernel_rfl) ?_
    intro hne
    replace HS := HS.drew
    try go_simp
    repeat' (first
      | (with_reducible refine wpPlan_forced ?_)
      | ((with_reducible ((show wpPlan _ _ _ _ (.early 0 _) _ _))); (first | (refine wpPlan_skipE rfl rfl ?_; (try go_simp)) | (refine wpPlan_early rfl rfl ?_; intro K hK; (first | go_big_quiet_op); (first | go_big_quiet_on | (refine ⟨_, fun _ => rfl, ?_⟩; go_big_quiet_on)))))
      | ((with_reducible ((show wpPlan _ _ _ _ (.early 1 _) _ _))); (first | (refine wpPlan_skipE rfl rfl ?_; (try go_simp)) | (refine wpPlan_early rfl rfl ?_; intro K hK; (first | ((refine quiet_loadS_st  _ _ rfl rfl tk sc_int rfx ?_); (try go_simp)) | go_big_quiet_op); (first | go_big_quiet_on | (refine ⟨_, fun _ => rfl, ?_⟩; go_big_quiet_on)))))
      | ((with_reducible ((show wpOne _ _ _ _ 2 1 _ _ _))); (first | (refine wpOne_skip rfl rfl ?_; (try go_simp)) | (refine wpOne_1 rfl rfl ?_; intro K hK; (first | (refine wp_loadA_st  _ _ rfl rfl HS tk ag_impl_Ring lit rfl ?_)); (try go_simp); refine hK _ _ ?_ ?_; (focus (exact stw HS)); clear hK K)))
      | ((with_reducible ((show wpOne _ _ _ _ 3 1 _ _ _))); (first | (refine wpOne_skip rfl rfl ?_; (try go_simp)) | (refine wpOne_1 rfl rfl ?_; intro K hK; go_simp; (first | (go_at_call 88; (with_reducible refine (ringUsed_any b s h t HZ.out (by omega) (by omega) (by omega) (by omega) _).mono ?_); rintro e w' ⟨rfl, hx⟩; replace HS := HS.grow hx; clear hx)); (try go_simp); refine hK _ _ ?_ ?_; (focus (exact stw HS)); clear hK K)))
      | ((with_reducible (first | (show wpOne _ _ _ _ 4 2 _ _ _) | (show wpOne _ _ _ _ 5 2 _ _ _))); (first | (refine wpOne_skip rfl rfl ?_; (try go_simp)) | (refine wpOne_2 rfl rfl ?_; intro K hK; go_simp; refine hK _ _ ?_; clear hK K)))
      | (with_reducible refine wpPlan_done ?_))
    all_goals
      go_wp2
      go_ret
      exact ⟨ret_int (by rw [HM.out]; first | rfl | exact IntWalk.i64_in _ (by omega)), HS.ex⟩

set_option maxRecDepth 100000 in
set_option maxHeartbeats 4000000 in
theorem slotAddr_any (b s h t k : Int) (w : World) (hq : ringOkB b s h t = true) (k0 : 0 ≤ k) (k1 : k ≤ 31) :
    Calls Try.prog 138 #[.agg #[.int .i64 b, .int .i64 s, .int .i64 h, .int .i64 t], .int .i64 k] w fun e w' => e = .returned (.int .i64 (rslot b s k)) ∧ Ex w w' := by
  have HQ := hid hq
  obtain ⟨hs, b0, b1, s0, s1, h0, h1, t0, t1, u1, u0⟩ := ringOk_facts hq
  have q1 : k.tmod s = k % s := Int.tmod_eq_emod_of_nonneg k0
  have m0 := Int.emod_nonneg k (show s ≠ 0 by omega)
  have m1 := Int.emod_lt_of_pos k (show 0 < s by omega)
  have sz : s ≠ 0 := by omega
  have w1 : IntKind.i64.wrap (k % s * 16) = k % s * 16 := IntWalk.i64_in _ (by omega)
  have w2 : IntKind.i64.wrap (b + k % s * 16) = b + k % s * 16 := IntWalk.i64_in _ (by omega)
  have w3 : IntKind.i64.wrap (16 * (k % s)) = 16 * (k % s) := IntWalk.i64_in _ (by omega)
  have w4 : IntKind.i64.wrap (b + 16 * (k % s)) = b + 16 * (k % s) := IntWalk.i64_in _ (by omega)
  have sz2 : (s == 0) = false := by simp [sz]
  have k2 : ¬ k < 0 := by omega
  have k3 : decide (k < 0) = false := decide_eq_false k2
  have HM : Hid (rslot b s k = b + k % s * 16) := hid rfl
  clear hs hq
  have HS := St.start w
  go_enter Try.func138, Try.ntmps138
  go_wp2_with (first
        | (go_at_call 87; (with_reducible refine (ringOk_any b s h t _).mono ?_); rintro e w' ⟨rfl, hx⟩; rw [HQ.out]; replace HS := HS.grow hx; clear hx)
        | ((with_reducible (show wpList _ _ _ (Oper.mk (some 2) (Op.box _ _) _ _ _ _ :: _) _ _)); refine wpList_box_st (o := ⟨some 2, .box _ _, _, _, _, _⟩) rfl _ _ rfl (v := .agg (List.toArray _)) rfl HS ?_; clear HS; intro w2 b2 hb2 HS; simp only [Value.cells] at HS)
        | ((with_reducible (show wpList _ _ _ (Oper.mk (some 5) (Op.load _ _) _ _ _ _ :: _) _ _)); refine wpList_loadA_st (o := ⟨some 5, .load _ _, _, _, _, _⟩) rfl _ _ rfl rfl HS tk ag_impl_Ring lit rfl ?_))
  refine wp_region_plan_st HS (.early 0 (.early 1 (.early 2 (.forced 3 1 (.forced 4 1 (.forced 5 1 (.forced 6 1 (.forced 7 2 (.forced 8 2 .done))))))))) (by kernel_rfl) (by as_aux_lemma => kernel_rfl) ?_
  intro hne
  replace HS := HS.drew
  try go_simp
  repeat' (first
    | (with_reducible refine wpPlan_forced ?_)
    | ((with_reducible (first | (show wpPlan _ _ _ _ (.early 0 _) _ _) | (show wpPlan _ _ _ _ (.early 2 _) _ _))); (first | (refine wpPlan_skipE rfl rfl ?_; (try go_simp)) | (refine wpPlan_early rfl rfl ?_; intro K hK; (first | go_big_quiet_op); (first | go_big_quiet_on | (refine ⟨_, fun _ => rfl, ?_⟩; go_big_quiet_on)))))
    | ((with_reducible ((show wpPlan _ _ _ _ (.early 1 _) _ _))); (first | (refine wpPlan_skipE rfl rfl ?_; (try go_simp)) | (refine wpPlan_early rfl rfl ?_; intro K hK; (first | ((refine quiet_loadS_st  _ _ rfl rfl tk sc_int rfx ?_); (try go_simp)) | go_big_quiet_op); (first | go_big_quiet_on | (refine ⟨_, fun _ => rfl, ?_⟩; go_big_quiet_on)))))
    | ((with_reducible (first | (show wpOne _ _ _ _ 3 1 _ _ _) | (show wpOne _ _ _ _ 5 1 _ _ _) | (show wpOne _ _ _ _ 6 1 _ _ _))); (first | (refine wpOne_skip rfl rfl ?_; (try go_simp)) | (refine wpOne_1 rfl rfl ?_; intro K hK; go_simp; refine hK _ _ ?_ ?_; (focus (exact stw HS)); clear hK K)))
    | ((with_reducible ((show wpOne _ _ _ _ 4 1 _ _ _))); (first | (refine wpOne_skip rfl rfl ?_; (try go_simp)) | (refine wpOne_1 rfl rfl ?_; intro K hK; (first | (refine wp_loadS_st  _ _ rfl rfl HS tk sc_int rfx ?_)); (try go_simp); refine hK _ _ ?_ ?_; (focus (exact stw HS)); clear hK K)))
    | ((with_reducible (first | (show wpOne _ _ _ _ 7 2 _ _ _) | (show wpOne _ _ _ _ 8 2 _ _ _))); (first | (refine wpOne_skip rfl rfl ?_; (try go_simp)) | (refine wpOne_2 rfl rfl ?_; intro K hK; go_simp; refine hK _ _ ?_; clear hK K)))
    | (with_reducible refine wpPlan_done ?_))
  all_goals
    go_wp2
    go_ret
    exact ⟨ret_int (by rw [HM.out]; try omega), HS.ex⟩

set_option maxRecDepth 100000 in
set_option maxHeartbeats 4000000 in
theorem ringFreeS_any (b s h t : Int) (w : World) :
    Calls Try.prog 95 #[.agg #[.int .i64 b, .int .i64 s, .int .i64 h, .int .i64 t]] w fun e w' => e = .returned (.int .i64 (freeF b s h t)) ∧ Ex w w' := by
  cases hq : ringOkB b s h t
  case false =>
    have HM : Hid (freeF b s h t = 0) := hid (by unfold freeF; rw [hq]; rfl)
    have HQ := hid hq
    clear hq
    have HS := St.start w
    go_enter Try.func95, Try.ntmps95
    go_wp2_with (first
          | (go_at_call 83; (with_reducible refine (ringOkS_any b s h t _).mono ?_); rintro e w' ⟨rfl, hx⟩; rw [HQ.out]; replace HS := HS.grow hx; clear hx)
          | ((with_reducible (show wpList _ _ _ (Oper.mk (some 1) (Op.box _ _) _ _ _ _ :: _) _ _)); refine wpList_box_st (o := ⟨some 1, .box _ _, _, _, _, _⟩) rfl _ _ rfl (v := .agg (List.toArray _)) rfl HS ?_; clear HS; intro w1 b1 hb1 HS; simp only [Value.cells] at HS)
          | ((with_reducible (show wpList _ _ _ (Oper.mk (some 3) (Op.load _ _) _ _ _ _ :: _) _ _)); refine wpList_loadA_st (o := ⟨some 3, .load _ _, _, _, _, _⟩) rfl _ _ rfl rfl HS tk ag_impl_Ring lit rfl ?_))
    go_ret
    exact ⟨ret_int HM.out.symm, HS.ex⟩
  case true =>
    have HM : Hid (freeF b s h t = s - (t - h) % (2 * s)) := hid (by unfold freeF; rw [hq]; rfl)
    have HQ := hid hq
    obtain ⟨hs, b0, b1, s0, s1, h0, h1, t0, t1, u1, u0⟩ := ringOk_facts hq
    have HZ := hid hs
    clear hs hq
    have HS := St.start w
    go_enter Try.func95, Try.ntmps95
    go_wp2_with (first
          | (go_at_call 83; (with_reducible refine (ringOkS_any b s h t _).mono ?_); rintro e w' ⟨rfl, hx⟩; rw [HQ.out]; replace HS := HS.grow hx; clear hx)
          | ((with_reducible (show wpList _ _ _ (Oper.mk (some 1) (Op.box _ _) _ _ _ _ :: _) _ _)); refine wpList_box_st (o := ⟨some 1, .box _ _, _, _, _, _⟩) rfl _ _ rfl (v := .agg (List.toArray _)) rfl HS ?_; clear HS; intro w1 b1 hb1 HS; simp only [Value.cells] at HS)
          | ((with_reducible (show wpList _ _ _ (Oper.mk (some 3) (Op.load _ _) _ _ _ _ :: _) _ _)); refine wpList_loadA_st (o := ⟨some 3, .load _ _, _, _, _, _⟩) rfl _ _ rfl rfl HS tk ag_impl_Ring lit rfl ?_))
    refine wp_region_plan_st HS (.early 0 (.early 1 (.forced 2 1 (.forced 3 1 (.forced 4 2 (.forced 5 2 .done)))))) (by kernel_rfl) (by as_aux_lemma => kernel_rfl) ?_
    intro hne
    replace HS := HS.drew
    try go_simp
    repeat' (first
      | (with_reducible refine wpPlan_forced ?_)
      | ((with_reducible ((show wpPlan _ _ _ _ (.early 0 _) _ _))); (first | (refine wpPlan_skipE rfl rfl ?_; (try go_simp)) | (refine wpPlan_early rfl rfl ?_; intro K hK; (first | go_big_quiet_op); (first | go_big_quiet_on | (refine ⟨_, fun _ => rfl, ?_⟩; go_big_quiet_on)))))
      | ((with_reducible ((show wpPlan _ _ _ _ (.early 1 _) _ _))); (first | (refine wpPlan_skipE rfl rfl ?_; (try go_simp)) | (refine wpPlan_early rfl rfl ?_; intro K hK; (first | ((refine quiet_loadS_st  _ _ rfl rfl tk sc_int rfx ?_); (try go_simp)) | go_big_quiet_op); (first | go_big_quiet_on | (refine ⟨_, fun _ => rfl, ?_⟩; go_big_quiet_on)))))
      | ((with_reducible ((show wpOne _ _ _ _ 2 1 _ _ _))); (first | (refine wpOne_skip rfl rfl ?_; (try go_simp)) | (refine wpOne_1 rfl rfl ?_; intro K hK; (first | (refine wp_loadA_st  _ _ rfl rfl HS tk ag_impl_Ring lit rfl ?_)); (try go_simp); refine hK _ _ ?_ ?_; (focus (exact stw HS)); clear hK K)))
      | ((with_reducible ((show wpOne _ _ _ _ 3 1 _ _ _))); (first | (refine wpOne_skip rfl rfl ?_; (try go_simp)) | (refine wpOne_1 rfl rfl ?_; intro K hK; go_simp; (first | (go_at_call 84; (with_reducible refine (ringUsedS_any b s h t HZ.out (by omega) (by omega) (by omega) (by omega) _).mono ?_); rintro e w' ⟨rfl, hx⟩; replace HS := HS.grow hx; clear hx)); (try go_simp); refine hK _ _ ?_ ?_; (focus (exact stw HS)); clear hK K)))
      | ((with_reducible (first | (show wpOne _ _ _ _ 4 2 _ _ _) | (show wpOne _ _ _ _ 5 2 _ _ _))); (first | (refine wpOne_skip rfl rfl ?_; (try go_simp)) | (refine wpOne_2 rfl rfl ?_; intro K hK; go_simp; refine hK _ _ ?_; clear hK K)))
      | (with_reducible refine wpPlan_done ?_))
    all_goals
      go_wp2
      go_ret
      exact ⟨ret_int (by rw [HM.out]; first | rfl | exact IntWalk.i64_in _ (by omega)), HS.ex⟩

set_option maxRecDepth 100000 in
set_option maxHeartbeats 4000000 in
theorem slotAddrS_any (b s h t k : Int) (w : World) (hq : ringOkB b s h t = true) (k0 : 0 ≤ k) (k1 : k ≤ 31) :
    Calls Try.prog 136 #[.agg #[.int .i64 b, .int .i64 s, .int .i64 h, .int .i64 t], .int .i64 k] w fun e w' => e = .returned (.int .i64 (rslot b s k)) ∧ Ex w w' := by
  have HQ := hid hq
  obtain ⟨hs, b0, b1, s0, s1, h0, h1, t0, t1, u1, u0⟩ := ringOk_facts hq
  have q1 : k.tmod s = k % s := Int.tmod_eq_emod_of_nonneg k0
  have m0 := Int.emod_nonneg k (show s ≠ 0 by omega)
  have m1 := Int.emod_lt_of_pos k (show 0 < s by omega)
  have sz : s ≠ 0 := by omega
  have w1 : IntKind.i64.wrap (k % s * 16) = k % s * 16 := IntWalk.i64_in _ (by omega)
  have w2 : IntKind.i64.wrap (b + k % s * 16) = b + k % s * 16 := IntWalk.i64_in _ (by omega)
  have w3 : IntKind.i64.wrap (16 * (k % s)) = 16 * (k % s) := IntWalk.i64_in _ (by omega)
  have w4 : IntKind.i64.wrap (b + 16 * (k % s)) = b + 16 * (k % s) := IntWalk.i64_in _ (by omega)
  have sz2 : (s == 0) = false := by simp [sz]
  have k2 : ¬ k < 0 := by omega
  have k3 : decide (k < 0) = false := decide_eq_false k2
  have HM : Hid (rslot b s k = b + k % s * 16) := hid rfl
  clear hs hq
  have HS := St.start w
  go_enter Try.func136, Try.ntmps136
  go_wp2_with (first
        | (go_at_call 83; (with_reducible refine (ringOkS_any b s h t _).mono ?_); rintro e w' ⟨rfl, hx⟩; rw [HQ.out]; replace HS := HS.grow hx; clear hx)
        | ((with_reducible (show wpList _ _ _ (Oper.mk (some 2) (Op.box _ _) _ _ _ _ :: _) _ _)); refine wpList_box_st (o := ⟨some 2, .box _ _, _, _, _, _⟩) rfl _ _ rfl (v := .agg (List.toArray _)) rfl HS ?_; clear HS; intro w2 b2 hb2 HS; simp only [Value.cells] at HS)
        | ((with_reducible (show wpList _ _ _ (Oper.mk (some 5) (Op.load _ _) _ _ _ _ :: _) _ _)); refine wpList_loadA_st (o := ⟨some 5, .load _ _, _, _, _, _⟩) rfl _ _ rfl rfl HS tk ag_impl_Ring lit rfl ?_))
  refine wp_region_plan_st HS (.early 0 (.early 1 (.early 2 (.forced 3 1 (.forced 4 1 (.forced 5 1 (.forced 6 1 (.forced 7 2 (.forced 8 2 .done))))))))) (by kernel_rfl) (by as_aux_lemma => kernel_rfl) ?_
  intro hne
  replace HS := HS.drew
  try go_simp
  repeat' (first
    | (with_reducible refine wpPlan_forced ?_)
    | ((with_reducible (first | (show wpPlan _ _ _ _ (.early 0 _) _ _) | (show wpPlan _ _ _ _ (.early 2 _) _ _))); (first | (refine wpPlan_skipE rfl rfl ?_; (try go_simp)) | (refine wpPlan_early rfl rfl ?_; intro K hK; (first | go_big_quiet_op); (first | go_big_quiet_on | (refine ⟨_, fun _ => rfl, ?_⟩; go_big_quiet_on)))))
    | ((with_reducible ((show wpPlan _ _ _ _ (.early 1 _) _ _))); (first | (refine wpPlan_skipE rfl rfl ?_; (try go_simp)) | (refine wpPlan_early rfl rfl ?_; intro K hK; (first | ((refine quiet_loadS_st  _ _ rfl rfl tk sc_int rfx ?_); (try go_simp)) | go_big_quiet_op); (first | go_big_quiet_on | (refine ⟨_, fun _ => rfl, ?_⟩; go_big_quiet_on)))))
    | ((with_reducible (first | (show wpOne _ _ _ _ 3 1 _ _ _) | (show wpOne _ _ _ _ 5 1 _ _ _) | (show wpOne _ _ _ _ 6 1 _ _ _))); (first | (refine wpOne_skip rfl rfl ?_; (try go_simp)) | (refine wpOne_1 rfl rfl ?_; intro K hK; go_simp; refine hK _ _ ?_ ?_; (focus (exact stw HS)); clear hK K)))
    | ((with_reducible ((show wpOne _ _ _ _ 4 1 _ _ _))); (first | (refine wpOne_skip rfl rfl ?_; (try go_simp)) | (refine wpOne_1 rfl rfl ?_; intro K hK; (first | (refine wp_loadS_st  _ _ rfl rfl HS tk sc_int rfx ?_)); (try go_simp); refine hK _ _ ?_ ?_; (focus (exact stw HS)); clear hK K)))
    | ((with_reducible (first | (show wpOne _ _ _ _ 7 2 _ _ _) | (show wpOne _ _ _ _ 8 2 _ _ _))); (first | (refine wpOne_skip rfl rfl ?_; (try go_simp)) | (refine wpOne_2 rfl rfl ?_; intro K hK; go_simp; refine hK _ _ ?_; clear hK K)))
    | (with_reducible refine wpPlan_done ?_))
  all_goals
    go_wp2
    go_ret
    exact ⟨ret_int (by rw [HM.out]; try omega), HS.ex⟩

def RetRing (w : World) (qs : Pg) (b s h t : Int) (ok : Bool) (e : Ending) (w' : World) : Prop := ∃ A k, e = .returned (.tuple #[.agg #[.slice A qs.length k], .agg #[.int .i64 b, .int .i64 s, .int .i64 h, .int .i64 t], .bool ok]) ∧ Owns w.heap.size w' qs [.slice A qs.length k] ∧ Ex w w'
theorem retRing {w0 w : World} {Is Js : List Asn} {qs : Pg} {v : Value} {b s h t : Int} {ok : Bool} (hh : St w0 w Is) (tt : Take Is (ownA qs [v]) Js) : RetRing w0 qs b s h t ok (.returned (.tuple #[.agg #[v], .agg #[.int .i64 b, .int .i64 s, .int .i64 h, .int .i64 t], .bool ok])) w := by
  obtain ⟨a, k, rfl⟩ := ownA.form hh tt
  exact ⟨a, k, rfl, hh.owns tt, hh.ex⟩
theorem dmaWF_same' {l : List Mp} {ps qs : Pg} {d a : Int} {s : ByteArray} {wt : Bool} (h : (qs, false) = dmaWF l ps d a s wt) : qs = ps := by
  unfold dmaWF at h
  split at h
  · cases h
  · simp only [Prod.mk.injEq] at h; exact h.1

set_option maxRecDepth 100000 in
set_option maxHeartbeats 4000000 in
theorem ringPut_any (v1 v2 : Value) (l : List Mp) (ps : Pg) (d b s h t : Int) (e : ByteArray) (w : World) (k1 : Holds w l [v1]) (k2 : Holds w ps [v2]) (hl : ps.length ≤ 1099511627776) (hd : i64ok d) (he : e.size ≤ 9223372036854775807) {qs : Pg} {t2 : Int} {ok : Bool} (hr : (qs, t2, ok) = rputF l ps d b s h t e) :
    Calls Try.prog 104 #[v1, .agg #[v2], .int .i64 d, .agg #[.int .i64 b, .int .i64 s, .int .i64 h, .int .i64 t], .string e] w (RetRing w qs b s h t2 ok) := by
  obtain ⟨AA, cap, rfl, z1, z2⟩ := k1.fl
  unfold maxLen at z2
  obtain ⟨BB, cap2, rfl, y1, y2⟩ := k2.fl
  unfold maxLen at y2
  replace hd := hid hd
  replace he := hid he
  unfold rputF at hr
  obtain ⟨fv, hfv⟩ : ∃ v, freeF b s h t = v := ⟨_, rfl⟩
  have HF := hid hfv
  by_cases hz : fv = 0
  case pos =>
    rw [hfv, if_pos hz] at hr
    simp only [Prod.mk.injEq] at hr
    obtain ⟨e1, e2, rfl⟩ := hr
    replace e1 := e1.symm
    subst e1
    replace e2 := e2.symm
    subst e2
    have z3 : (fv == 0) = true := by simp [hz]
    clear hfv hz
    have HS := St.start w
    go_enter Try.func104, Try.ntmps104
    go_wp2_with (first
          | (go_at_call 141; (with_reducible refine (ringFree_any b s h t _).mono ?_); rintro e w' ⟨rfl, hx⟩; rw [HF.out]; replace HS := HS.grow hx; clear hx)
          | ((with_reducible (show wpList _ _ _ (Oper.mk (some 6) (Op.box _ _) _ _ _ _ :: _) _ _)); refine wpList_box_st (o := ⟨some 6, .box _ _, _, _, _, _⟩) rfl _ _ rfl (v := .agg (List.toArray _)) rfl HS ?_; clear HS; intro w6 b6 hb6 HS; simp only [Value.cells] at HS)
          | ((with_reducible (show wpList _ _ _ (Oper.mk (some 8) (Op.box _ _) _ _ _ _ :: _) _ _)); refine wpList_box_st (o := ⟨some 8, .box _ _, _, _, _, _⟩) rfl _ _ rfl (v := .agg (List.toArray _)) rfl HS ?_; clear HS; intro w8 b8 hb8 HS; simp only [Value.cells] at HS)
          | ((with_reducible (show wpList _ _ _ (Oper.mk (some 10) (Op.alloc _) _ _ _ _ :: _) _ _)); refine wpList_alloc_st (o := ⟨some 10, .alloc _, _, _, _, _⟩) rfl _ rfl zc_impl_Memory HS ?_; clear HS; intro w10 b10 hb10 HS)
          | ((with_reducible (show wpList _ _ _ (Oper.mk (some 11) (Op.alloc _) _ _ _ _ :: _) _ _)); refine wpList_alloc_st (o := ⟨some 11, .alloc _, _, _, _, _⟩) rfl _ rfl zc_impl_Ring HS ?_; clear HS; intro w11 b11 hb11 HS)
          | ((with_reducible (show wpList _ _ _ (Oper.mk (some 15) (Op.load _ _) _ _ _ _ :: _) _ _)); refine wpList_loadA_st (o := ⟨some 15, .load _ _, _, _, _, _⟩) rfl _ _ rfl rfl HS tk ag_impl_Ring lit rfl ?_))
    refine wp_region_plan_st (HS.arr (show Arr _ [rowA b6 _ _, rowA b8 _ _] from ary)) (.early 0 (.early 2 (.forced 1 1 (.forced 3 1 (.forced 4 2 (.forced 5 2 .done)))))) (by kernel_rfl) (by as_aux_lemma => kernel_rfl) ?_
    intro hne
    replace HS := HS.drew
    try go_simp
    repeat' (first
      | (with_reducible refine wpPlan_forced ?_)
      | ((with_reducible ((show wpPlan _ _ _ _ (.early 0 _) _ _))); (first | (refine wpPlan_skipE rfl rfl ?_; (try go_simp)) | (refine wpPlan_early rfl rfl ?_; intro K hK; (first | ((refine quiet_loadA_st  _ _ rfl rfl tk ag_impl_Memory lit rfl ?_); (try go_simp)) | go_big_quiet_op); (first | go_big_quiet_on | (refine ⟨_, fun _ => rfl, ?_⟩; go_big_quiet_on)))))
      | ((with_reducible ((show wpPlan _ _ _ _ (.early 2 _) _ _))); (first | (refine wpPlan_skipE rfl rfl ?_; (try go_simp)) | (refine wpPlan_early rfl rfl ?_; intro K hK; (first | ((refine quiet_loadA_st  _ _ rfl rfl tk ag_impl_Ring lit rfl ?_); (try go_simp)) | go_big_quiet_op); (first | go_big_quiet_on | (refine ⟨_, fun _ => rfl, ?_⟩; go_big_quiet_on)))))
      | ((with_reducible ((show wpOne _ _ _ _ 1 1 _ _ _))); (first | (refine wpOne_skip rfl rfl ?_; (try go_simp)) | (refine wpOne_1 rfl rfl ?_; intro K hK; go_simp; (first | (go_at_call 55; (with_reducible refine (copyMemory_any _ ps _ (k2.ex HS.ex) hl).mono ?_); rintro e w' ⟨A0, c0, rfl, ho, hx⟩; replace HS := HS.own ho hx; clear ho hx)); (try go_simp); refine hK _ _ ?_ ?_; (focus (exact stw HS)); clear hK K)))
      | ((with_reducible ((show wpOne _ _ _ _ 3 1 _ _ _))); (first | (refine wpOne_skip rfl rfl ?_; (try go_simp)) | (refine wpOne_1 rfl rfl ?_; intro K hK; (first | (refine wp_store_st  _ _ _ rfl rfl (v := .agg (List.toArray _)) rfl HS tk sz_impl_Memory vcs rfx rfx (by simp) ?_ rfl; clear HS; intro w2_3 hz2_3 HS; simp only [nicL, Value.cells, List.append_nil] at HS) | (refine wp_store_st  _ _ _ rfl rfl (v := .agg _) rfl HS tk sz_impl_Memory vcs rfx rfx (by simp) ?_ rfl; clear HS; intro w2_3 hz2_3 HS; simp only [nicL, Value.cells, List.append_nil] at HS)); (try go_simp); refine hK _ _ ?_ ?_; (focus (exact stw HS)); clear hK K)))
      | ((with_reducible ((show wpOne _ _ _ _ 4 2 _ _ _))); (first | (refine wpOne_skip rfl rfl ?_; (try go_simp)) | (refine wpOne_2 rfl rfl ?_; intro K hK; (first | (refine wp_store_st  _ _ _ rfl rfl (v := .agg (List.toArray _)) rfl HS tk sz_impl_Ring vcs rfx rfx (by simp) ?_ rfl; clear HS; intro w2_4 hz2_4 HS; simp only [nicL, Value.cells, List.append_nil] at HS) | (refine wp_store_st  _ _ _ rfl rfl (v := .agg _) rfl HS tk sz_impl_Ring vcs rfx rfx (by simp) ?_ rfl; clear HS; intro w2_4 hz2_4 HS; simp only [nicL, Value.cells, List.append_nil] at HS)); (try go_simp); refine hK _ _ ?_; clear hK K)))
      | ((with_reducible ((show wpOne _ _ _ _ 5 2 _ _ _))); (first | (refine wpOne_skip rfl rfl ?_; (try go_simp)) | (refine wpOne_2 rfl rfl ?_; intro K hK; go_simp; refine hK _ _ ?_; clear hK K)))
      | (with_reducible refine wpPlan_done ?_))
    all_goals
      go_wp2
      refine bodyPost_rets rfx (RVs.cell rfx HS tk ag_impl_Memory rfx (RVs.cell rfx HS tk ag_impl_Ring rfx (RVs.tmp rfx RVs.nil))) (by simp) rfx ?_
      exact retRing HS tk
  case neg =>
  rw [hfv, if_neg hz] at hr
  have z3 : (fv == 0) = false := by simp [hz]
  have hq : ringOkB b s h t = true := freeF_ok (by rw [hfv]; exact hz)
  clear hfv hz
  by_cases hsz : e.size = 16
  case neg =>
    rw [if_neg hsz] at hr
    simp only [Prod.mk.injEq] at hr
    obtain ⟨e1, e2, rfl⟩ := hr
    replace e1 := e1.symm
    subst e1
    replace e2 := e2.symm
    subst e2
    have z4 : ((e.size : Int) != 16) = true := by simp; omega
    clear hsz hq
    have HS := St.start w
    go_enter Try.func104, Try.ntmps104
    go_wp2_with (first
          | (go_at_call 141; (with_reducible refine (ringFree_any b s h t _).mono ?_); rintro e w' ⟨rfl, hx⟩; rw [HF.out]; replace HS := HS.grow hx; clear hx)
          | ((with_reducible (show wpList _ _ _ (Oper.mk (some 6) (Op.box _ _) _ _ _ _ :: _) _ _)); refine wpList_box_st (o := ⟨some 6, .box _ _, _, _, _, _⟩) rfl _ _ rfl (v := .agg (List.toArray _)) rfl HS ?_; clear HS; intro w6 b6 hb6 HS; simp only [Value.cells] at HS)
          | ((with_reducible (show wpList _ _ _ (Oper.mk (some 8) (Op.box _ _) _ _ _ _ :: _) _ _)); refine wpList_box_st (o := ⟨some 8, .box _ _, _, _, _, _⟩) rfl _ _ rfl (v := .agg (List.toArray _)) rfl HS ?_; clear HS; intro w8 b8 hb8 HS; simp only [Value.cells] at HS)
          | ((with_reducible (show wpList _ _ _ (Oper.mk (some 10) (Op.alloc _) _ _ _ _ :: _) _ _)); refine wpList_alloc_st (o := ⟨some 10, .alloc _, _, _, _, _⟩) rfl _ rfl zc_impl_Memory HS ?_; clear HS; intro w10 b10 hb10 HS)
          | ((with_reducible (show wpList _ _ _ (Oper.mk (some 11) (Op.alloc _) _ _ _ _ :: _) _ _)); refine wpList_alloc_st (o := ⟨some 11, .alloc _, _, _, _, _⟩) rfl _ rfl zc_impl_Ring HS ?_; clear HS; intro w11 b11 hb11 HS)
          | ((with_reducible (show wpList _ _ _ (Oper.mk (some 15) (Op.load _ _) _ _ _ _ :: _) _ _)); refine wpList_loadA_st (o := ⟨some 15, .load _ _, _, _, _, _⟩) rfl _ _ rfl rfl HS tk ag_impl_Ring lit rfl ?_))
    refine wp_region_plan_st (HS.arr (show Arr _ [rowA b6 _ _, rowA b8 _ _] from ary)) (.early 0 (.early 2 (.forced 1 1 (.forced 3 1 (.forced 4 2 (.forced 5 2 .done)))))) (by kernel_rfl) (by as_aux_lemma => kernel_rfl) ?_
    intro hne
    replace HS := HS.drew
    try go_simp
    repeat' (first
      | (with_reducible refine wpPlan_forced ?_)
      | ((with_reducible ((show wpPlan _ _ _ _ (.early 0 _) _ _))); (first | (refine wpPlan_skipE rfl rfl ?_; (try go_simp)) | (refine wpPlan_early rfl rfl ?_; intro K hK; (first | ((refine quiet_loadA_st  _ _ rfl rfl tk ag_impl_Memory lit rfl ?_); (try go_simp)) | go_big_quiet_op); (first | go_big_quiet_on | (refine ⟨_, fun _ => rfl, ?_⟩; go_big_quiet_on)))))
      | ((with_reducible ((show wpPlan _ _ _ _ (.early 2 _) _ _))); (first | (refine wpPlan_skipE rfl rfl ?_; (try go_simp)) | (refine wpPlan_early rfl rfl ?_; intro K hK; (first | ((refine quiet_loadA_st  _ _ rfl rfl tk ag_impl_Ring lit rfl ?_); (try go_simp)) | go_big_quiet_op); (first | go_big_quiet_on | (refine ⟨_, fun _ => rfl, ?_⟩; go_big_quiet_on)))))
      | ((with_reducible ((show wpOne _ _ _ _ 1 1 _ _ _))); (first | (refine wpOne_skip rfl rfl ?_; (try go_simp)) | (refine wpOne_1 rfl rfl ?_; intro K hK; go_simp; (first | (go_at_call 55; (with_reducible refine (copyMemory_any _ ps _ (k2.ex HS.ex) hl).mono ?_); rintro e w' ⟨A0, c0, rfl, ho, hx⟩; replace HS := HS.own ho hx; clear ho hx)); (try go_simp); refine hK _ _ ?_ ?_; (focus (exact stw HS)); clear hK K)))
      | ((with_reducible ((show wpOne _ _ _ _ 3 1 _ _ _))); (first | (refine wpOne_skip rfl rfl ?_; (try go_simp)) | (refine wpOne_1 rfl rfl ?_; intro K hK; (first | (refine wp_store_st  _ _ _ rfl rfl (v := .agg (List.toArray _)) rfl HS tk sz_impl_Memory vcs rfx rfx (by simp) ?_ rfl; clear HS; intro w2_3 hz2_3 HS; simp only [nicL, Value.cells, List.append_nil] at HS) | (refine wp_store_st  _ _ _ rfl rfl (v := .agg _) rfl HS tk sz_impl_Memory vcs rfx rfx (by simp) ?_ rfl; clear HS; intro w2_3 hz2_3 HS; simp only [nicL, Value.cells, List.append_nil] at HS)); (try go_simp); refine hK _ _ ?_ ?_; (focus (exact stw HS)); clear hK K)))
      | ((with_reducible ((show wpOne _ _ _ _ 4 2 _ _ _))); (first | (refine wpOne_skip rfl rfl ?_; (try go_simp)) | (refine wpOne_2 rfl rfl ?_; intro K hK; (first | (refine wp_store_st  _ _ _ rfl rfl (v := .agg (List.toArray _)) rfl HS tk sz_impl_Ring vcs rfx rfx (by simp) ?_ rfl; clear HS; intro w2_4 hz2_4 HS; simp only [nicL, Value.cells, List.append_nil] at HS) | (refine wp_store_st  _ _ _ rfl rfl (v := .agg _) rfl HS tk sz_impl_Ring vcs rfx rfx (by simp) ?_ rfl; clear HS; intro w2_4 hz2_4 HS; simp only [nicL, Value.cells, List.append_nil] at HS)); (try go_simp); refine hK _ _ ?_; clear hK K)))
      | ((with_reducible ((show wpOne _ _ _ _ 5 2 _ _ _))); (first | (refine wpOne_skip rfl rfl ?_; (try go_simp)) | (refine wpOne_2 rfl rfl ?_; intro K hK; go_simp; refine hK _ _ ?_; clear hK K)))
      | (with_reducible refine wpPlan_done ?_))
    all_goals
      go_wp2
      refine bodyPost_rets rfx (RVs.cell rfx HS tk ag_impl_Memory rfx (RVs.cell rfx HS tk ag_impl_Ring rfx (RVs.tmp rfx RVs.nil))) (by simp) rfx ?_
      exact retRing HS tk
  case pos =>
  rw [if_pos hsz] at hr
  have z4 : ((e.size : Int) != 16) = false := by simp; omega
  clear hsz
  have HQ := hid hq
  obtain ⟨sb0, sb1⟩ := rslot_bd hq t
  have HSI : Hid (i64ok (rslot b s t)) := hid (by unfold i64ok; omega)
  obtain ⟨hs, b0, b1, s0, s1, h0, h1, t0, t1, u1, u0⟩ := ringOk_facts hq
  clear hs hq sb0 sb1 u1 u0
  obtain ⟨⟨rs, k⟩, hD⟩ : ∃ r, r = dmaWF l ps d (rslot b s t) e true := ⟨_, rfl⟩
  rw [← hD] at hr
  have HD := hid hD
  cases k
  case false =>
    have e3 := dmaWF_same' hD
    replace e3 := e3.symm
    subst e3
    simp only [Prod.mk.injEq] at hr
    obtain ⟨e1, e2, rfl⟩ := hr
    replace e1 := e1.symm
    subst e1
    replace e2 := e2.symm
    subst e2
    clear hD
    have HS := St.start w
    go_enter Try.func104, Try.ntmps104
    go_wp2_with (first
          | (go_at_call 141; (with_reducible refine (ringFree_any b s h t _).mono ?_); rintro e w' ⟨rfl, hx⟩; rw [HF.out]; replace HS := HS.grow hx; clear hx)
          | ((with_reducible (show wpList _ _ _ (Oper.mk (some 6) (Op.box _ _) _ _ _ _ :: _) _ _)); refine wpList_box_st (o := ⟨some 6, .box _ _, _, _, _, _⟩) rfl _ _ rfl (v := .agg (List.toArray _)) rfl HS ?_; clear HS; intro w6 b6 hb6 HS; simp only [Value.cells] at HS)
          | ((with_reducible (show wpList _ _ _ (Oper.mk (some 8) (Op.box _ _) _ _ _ _ :: _) _ _)); refine wpList_box_st (o := ⟨some 8, .box _ _, _, _, _, _⟩) rfl _ _ rfl (v := .agg (List.toArray _)) rfl HS ?_; clear HS; intro w8 b8 hb8 HS; simp only [Value.cells] at HS)
          | ((with_reducible (show wpList _ _ _ (Oper.mk (some 10) (Op.alloc _) _ _ _ _ :: _) _ _)); refine wpList_alloc_st (o := ⟨some 10, .alloc _, _, _, _, _⟩) rfl _ rfl zc_impl_Memory HS ?_; clear HS; intro w10 b10 hb10 HS)
          | ((with_reducible (show wpList _ _ _ (Oper.mk (some 11) (Op.alloc _) _ _ _ _ :: _) _ _)); refine wpList_alloc_st (o := ⟨some 11, .alloc _, _, _, _, _⟩) rfl _ rfl zc_impl_Ring HS ?_; clear HS; intro w11 b11 hb11 HS)
          | ((with_reducible (show wpList _ _ _ (Oper.mk (some 15) (Op.load _ _) _ _ _ _ :: _) _ _)); refine wpList_loadA_st (o := ⟨some 15, .load _ _, _, _, _, _⟩) rfl _ _ rfl rfl HS tk ag_impl_Ring lit rfl ?_))
    refine wp_region_plan_st HS (.early 0 (.early 1 (.early 2 (.early 3 (.early 4 (.early 5 (.early 7 (.fork 6 1 (.fork 8 1 (.pure 9 (.pure 10 (.pure 11 (.forced 12 1 (.forced 13 2 (.forced 14 2 .done)))))) 12 1 (.forced 8 2 (.forced 9 2 (.pure 10 (.pure 11 (.forced 13 2 (.forced 14 2 .done))))))) 12 1 (.forced 6 1 (.forced 8 2 (.forced 9 2 (.pure 10 (.pure 11 (.forced 13 2 (.forced 14 2 .done))))))))))))))) (by kernel_rfl) (by as_aux_lemma => kernel_rfl) ?_
    intro hne
    replace HS := HS.drew
    try go_simp
    repeat' (first
      | (with_reducible refine wpPlan_fork ?_ ?_)
      | (with_reducible refine wpPlan_forced ?_)
      | ((with_reducible (first | (show wpPlan _ _ _ _ (.early 0 _) _ _) | (show wpPlan _ _ _ _ (.early 2 _) _ _) | (show wpPlan _ _ _ _ (.early 4 _) _ _) | (show wpPlan _ _ _ _ (.early 7 _) _ _))); (first | (refine wpPlan_skipE rfl rfl ?_; (try go_simp)) | (refine wpPlan_early rfl rfl ?_; intro K hK; (first | go_big_quiet_op); (first | go_big_quiet_on | (refine ⟨_, fun _ => rfl, ?_⟩; go_big_quiet_on)))))
      | ((with_reducible ((show wpPlan _ _ _ _ (.early 1 _) _ _))); (first | (refine wpPlan_skipE rfl rfl ?_; (try go_simp)) | (refine wpPlan_early rfl rfl ?_; intro K hK; (first | ((refine quiet_loadA_st  _ _ rfl rfl tk ag_impl_Memory lit rfl ?_); (try go_simp)) | go_big_quiet_op); (first | go_big_quiet_on | (refine ⟨_, fun _ => rfl, ?_⟩; go_big_quiet_on)))))
      | ((with_reducible ((show wpPlan _ _ _ _ (.early 3 _) _ _))); (first | (refine wpPlan_skipE rfl rfl ?_; (try go_simp)) | (refine wpPlan_early rfl rfl ?_; intro K hK; (first | ((refine quiet_loadA_st  _ _ rfl rfl tk ag_impl_Ring lit rfl ?_); (try go_simp)) | go_big_quiet_op); (first | go_big_quiet_on | (refine ⟨_, fun _ => rfl, ?_⟩; go_big_quiet_on)))))
      | ((with_reducible ((show wpPlan _ _ _ _ (.early 5 _) _ _))); (first | (refine wpPlan_skipE rfl rfl ?_; (try go_simp)) | (refine wpPlan_early rfl rfl ?_; intro K hK; (first | ((refine quiet_loadS_st  _ _ rfl rfl tk sc_int rfx ?_); (try go_simp)) | go_big_quiet_op); (first | go_big_quiet_on | (refine ⟨_, fun _ => rfl, ?_⟩; go_big_quiet_on)))))
      | ((with_reducible ((show wpOne _ _ _ _ 6 1 _ _ _))); (first | (refine wpOne_skip rfl rfl ?_; (try go_simp)) | (refine wpOne_1 rfl rfl ?_; intro K hK; go_simp; (first | (go_at_call 138; (with_reducible refine (slotAddr_any b s h t t _ HQ.out (by omega) (by omega)).mono ?_); rintro e w' ⟨rfl, hx⟩; replace HS := HS.grow hx; clear hx)); (try go_simp); refine hK _ _ ?_ ?_; (focus (exact stw HS)); clear hK K)))
      | ((with_reducible ((show wpOne _ _ _ _ 8 1 _ _ _))); (first | (refine wpOne_skip rfl rfl ?_; (try go_simp)) | (refine wpOne_1 rfl rfl ?_; intro K hK; go_simp; (first | (go_at_call 56; (with_reducible refine (dmaWrite_any _ _ l ps d (rslot b s t) e _ (k1.ex HS.ex) (k2.ex HS.ex) hl hd.out HSI.out he.out HD.out).mono ?_); rintro e w' ⟨A7, c7, rfl, ho, hx⟩; replace HS := HS.own ho hx; clear ho hx)); (try go_simp); refine hK _ _ ?_ ?_; (focus (exact stw HS)); clear hK K)))
      | ((with_reducible ((show wpPlan _ _ _ _ (.pure _ _) _ _))); (first | (refine wpPlan_skipP rfl rfl ?_; (try go_simp)) | (refine wpPlan_pure rfl rfl ?_; intro K hK; go_big_quiet_op; (first | go_big_quiet_on | (refine ⟨_, fun _ => rfl, ?_⟩; go_big_quiet_on)))))
      | ((with_reducible ((show wpOne _ _ _ _ 12 1 _ _ _))); (first | (refine wpOne_skip rfl rfl ?_; (try go_simp)) | (refine wpOne_1 rfl rfl ?_; intro K hK; (first | (refine wp_alloc_st  _ rfl zc_impl_Memory HS ?_; clear HS; intro w13 b13 hb13 HS)); (try go_simp); refine hK _ _ ?_ ?_; (focus (exact stw HS)); clear hK K)))
      | ((with_reducible ((show wpOne _ _ _ _ 13 2 _ _ _))); (first | (refine wpOne_skip rfl rfl ?_; (try go_simp)) | (refine wpOne_2 rfl rfl ?_; intro K hK; (first | (refine wp_store_st  _ _ _ rfl rfl (v := .agg (List.toArray _)) rfl HS tk sz_impl_Memory vcs rfx rfx (by simp) ?_ rfl; clear HS; intro w3_13 hz3_13 HS; simp only [nicL, Value.cells, List.append_nil] at HS) | (refine wp_store_st  _ _ _ rfl rfl (v := .agg _) rfl HS tk sz_impl_Memory vcs rfx rfx (by simp) ?_ rfl; clear HS; intro w3_13 hz3_13 HS; simp only [nicL, Value.cells, List.append_nil] at HS)); (try go_simp); refine hK _ _ ?_; clear hK K)))
      | ((with_reducible (first | (show wpOne _ _ _ _ 14 2 _ _ _) | (show wpOne _ _ _ _ 9 2 _ _ _))); (first | (refine wpOne_skip rfl rfl ?_; (try go_simp)) | (refine wpOne_2 rfl rfl ?_; intro K hK; go_simp; refine hK _ _ ?_; clear hK K)))
      | ((with_reducible ((show wpOne _ _ _ _ 8 2 _ _ _))); (first | (refine wpOne_skip rfl rfl ?_; (try go_simp)) | (refine wpOne_2 rfl rfl ?_; intro K hK; go_simp; (first | (go_at_call 56; (with_reducible refine (dmaWrite_any _ _ l ps d (rslot b s t) e _ (k1.ex HS.ex) (k2.ex HS.ex) hl hd.out HSI.out he.out HD.out).mono ?_); rintro e w' ⟨A7, c7, rfl, ho, hx⟩; replace HS := HS.own ho hx; clear ho hx)); (try go_simp); refine hK _ _ ?_; clear hK K)))
      | (with_reducible refine wpPlan_done ?_))
    all_goals
      go_wp2
      refine wp_region_plan_st (HS.arr (show Arr _ [rowA b13 _ _, rowA b8 _ _] from ary)) (.early 0 (.early 1 (.forced 2 1 (.forced 3 2 (.forced 4 2 .done))))) (by kernel_rfl) (by as_aux_lemma => kernel_rfl) ?_
      intro hne
      replace HS := HS.drew
      try go_simp
      repeat' (first
        | (with_reducible refine wpPlan_forced ?_)
        | ((with_reducible ((show wpPlan _ _ _ _ (.early 0 _) _ _))); (first | (refine wpPlan_skipE rfl rfl ?_; (try go_simp)) | (refine wpPlan_early rfl rfl ?_; intro K hK; (first | ((refine quiet_loadA_st  _ _ rfl rfl tk ag_impl_Memory lit rfl ?_); (try go_simp)) | go_big_quiet_op); (first | go_big_quiet_on | (refine ⟨_, fun _ => rfl, ?_⟩; go_big_quiet_on)))))
        | ((with_reducible ((show wpPlan _ _ _ _ (.early 1 _) _ _))); (first | (refine wpPlan_skipE rfl rfl ?_; (try go_simp)) | (refine wpPlan_early rfl rfl ?_; intro K hK; (first | ((refine quiet_loadA_st  _ _ rfl rfl tk ag_impl_Ring lit rfl ?_); (try go_simp)) | go_big_quiet_op); (first | go_big_quiet_on | (refine ⟨_, fun _ => rfl, ?_⟩; go_big_quiet_on)))))
        | ((with_reducible ((show wpOne _ _ _ _ 2 1 _ _ _))); (first | (refine wpOne_skip rfl rfl ?_; (try go_simp)) | (refine wpOne_1 rfl rfl ?_; intro K hK; (first | (refine wp_store_st  _ _ _ rfl rfl (v := .agg (List.toArray _)) rfl HS tk sz_impl_Memory vcs rfx rfx (by simp) ?_ rfl; clear HS; intro w5_2 hz5_2 HS; simp only [nicL, Value.cells, List.append_nil] at HS) | (refine wp_store_st  _ _ _ rfl rfl (v := .agg _) rfl HS tk sz_impl_Memory vcs rfx rfx (by simp) ?_ rfl; clear HS; intro w5_2 hz5_2 HS; simp only [nicL, Value.cells, List.append_nil] at HS)); (try go_simp); refine hK _ _ ?_ ?_; (focus (exact stw HS)); clear hK K)))
        | ((with_reducible ((show wpOne _ _ _ _ 3 2 _ _ _))); (first | (refine wpOne_skip rfl rfl ?_; (try go_simp)) | (refine wpOne_2 rfl rfl ?_; intro K hK; (first | (refine wp_store_st  _ _ _ rfl rfl (v := .agg (List.toArray _)) rfl HS tk sz_impl_Ring vcs rfx rfx (by simp) ?_ rfl; clear HS; intro w5_3 hz5_3 HS; simp only [nicL, Value.cells, List.append_nil] at HS) | (refine wp_store_st  _ _ _ rfl rfl (v := .agg _) rfl HS tk sz_impl_Ring vcs rfx rfx (by simp) ?_ rfl; clear HS; intro w5_3 hz5_3 HS; simp only [nicL, Value.cells, List.append_nil] at HS)); (try go_simp); refine hK _ _ ?_; clear hK K)))
        | ((with_reducible ((show wpOne _ _ _ _ 4 2 _ _ _))); (first | (refine wpOne_skip rfl rfl ?_; (try go_simp)) | (refine wpOne_2 rfl rfl ?_; intro K hK; go_simp; refine hK _ _ ?_; clear hK K)))
        | (with_reducible refine wpPlan_done ?_))
      all_goals
        go_wp2
        refine bodyPost_rets rfx (RVs.cell rfx HS tk ag_impl_Memory rfx (RVs.cell rfx HS tk ag_impl_Ring rfx (RVs.tmp rfx RVs.nil))) (by simp) rfx ?_
        exact retRing HS tk
  case true =>
    simp only [Prod.mk.injEq] at hr
    obtain ⟨rfl, rfl, rfl⟩ := hr
    clear hD
    have q3 : (t + 1).tmod (2 * s) = (t + 1) % (2 * s) := Int.tmod_eq_emod_of_nonneg (by omega)
    have q4 : 2 * s ≠ 0 := by omega
    have q5 : (2 * s == 0) = false := by simp [q4]
    have HN : Hid (rnext s t = (t + 1) % (2 * s)) := hid rfl
    have HS := St.start w
    go_enter Try.func104, Try.ntmps104
    go_wp2_with (first
          | (go_at_call 141; (with_reducible refine (ringFree_any b s h t _).mono ?_); rintro e w' ⟨rfl, hx⟩; rw [HF.out]; replace HS := HS.grow hx; clear hx)
          | ((with_reducible (show wpList _ _ _ (Oper.mk (some 6) (Op.box _ _) _ _ _ _ :: _) _ _)); refine wpList_box_st (o := ⟨some 6, .box _ _, _, _, _, _⟩) rfl _ _ rfl (v := .agg (List.toArray _)) rfl HS ?_; clear HS; intro w6 b6 hb6 HS; simp only [Value.cells] at HS)
          | ((with_reducible (show wpList _ _ _ (Oper.mk (some 8) (Op.box _ _) _ _ _ _ :: _) _ _)); refine wpList_box_st (o := ⟨some 8, .box _ _, _, _, _, _⟩) rfl _ _ rfl (v := .agg (List.toArray _)) rfl HS ?_; clear HS; intro w8 b8 hb8 HS; simp only [Value.cells] at HS)
          | ((with_reducible (show wpList _ _ _ (Oper.mk (some 10) (Op.alloc _) _ _ _ _ :: _) _ _)); refine wpList_alloc_st (o := ⟨some 10, .alloc _, _, _, _, _⟩) rfl _ rfl zc_impl_Memory HS ?_; clear HS; intro w10 b10 hb10 HS)
          | ((with_reducible (show wpList _ _ _ (Oper.mk (some 11) (Op.alloc _) _ _ _ _ :: _) _ _)); refine wpList_alloc_st (o := ⟨some 11, .alloc _, _, _, _, _⟩) rfl _ rfl zc_impl_Ring HS ?_; clear HS; intro w11 b11 hb11 HS)
          | ((with_reducible (show wpList _ _ _ (Oper.mk (some 15) (Op.load _ _) _ _ _ _ :: _) _ _)); refine wpList_loadA_st (o := ⟨some 15, .load _ _, _, _, _, _⟩) rfl _ _ rfl rfl HS tk ag_impl_Ring lit rfl ?_))
    refine wp_region_plan_st HS (.early 0 (.early 1 (.early 2 (.early 3 (.early 4 (.early 5 (.early 7 (.fork 6 1 (.fork 8 1 (.pure 9 (.pure 10 (.pure 11 (.forced 12 1 (.forced 13 2 (.forced 14 2 .done)))))) 12 1 (.forced 8 2 (.forced 9 2 (.pure 10 (.pure 11 (.forced 13 2 (.forced 14 2 .done))))))) 12 1 (.forced 6 1 (.forced 8 2 (.forced 9 2 (.pure 10 (.pure 11 (.forced 13 2 (.forced 14 2 .done))))))))))))))) (by kernel_rfl) (by as_aux_lemma => kernel_rfl) ?_
    intro hne
    replace HS := HS.drew
    try go_simp
    repeat' (first
      | (with_reducible refine wpPlan_fork ?_ ?_)
      | (with_reducible refine wpPlan_forced ?_)
      | ((with_reducible (first | (show wpPlan _ _ _ _ (.early 0 _) _ _) | (show wpPlan _ _ _ _ (.early 2 _) _ _) | (show wpPlan _ _ _ _ (.early 4 _) _ _) | (show wpPlan _ _ _ _ (.early 7 _) _ _))); (first | (refine wpPlan_skipE rfl rfl ?_; (try go_simp)) | (refine wpPlan_early rfl rfl ?_; intro K hK; (first | go_big_quiet_op); (first | go_big_quiet_on | (refine ⟨_, fun _ => rfl, ?_⟩; go_big_quiet_on)))))
      | ((with_reducible ((show wpPlan _ _ _ _ (.early 1 _) _ _))); (first | (refine wpPlan_skipE rfl rfl ?_; (try go_simp)) | (refine wpPlan_early rfl rfl ?_; intro K hK; (first | ((refine quiet_loadA_st  _ _ rfl rfl tk ag_impl_Memory lit rfl ?_); (try go_simp)) | go_big_quiet_op); (first | go_big_quiet_on | (refine ⟨_, fun _ => rfl, ?_⟩; go_big_quiet_on)))))
      | ((with_reducible ((show wpPlan _ _ _ _ (.early 3 _) _ _))); (first | (refine wpPlan_skipE rfl rfl ?_; (try go_simp)) | (refine wpPlan_early rfl rfl ?_; intro K hK; (first | ((refine quiet_loadA_st  _ _ rfl rfl tk ag_impl_Ring lit rfl ?_); (try go_simp)) | go_big_quiet_op); (first | go_big_quiet_on | (refine ⟨_, fun _ => rfl, ?_⟩; go_big_quiet_on)))))
      | ((with_reducible ((show wpPlan _ _ _ _ (.early 5 _) _ _))); (first | (refine wpPlan_skipE rfl rfl ?_; (try go_simp)) | (refine wpPlan_early rfl rfl ?_; intro K hK; (first | ((refine quiet_loadS_st  _ _ rfl rfl tk sc_int rfx ?_); (try go_simp)) | go_big_quiet_op); (first | go_big_quiet_on | (refine ⟨_, fun _ => rfl, ?_⟩; go_big_quiet_on)))))
      | ((with_reducible ((show wpOne _ _ _ _ 6 1 _ _ _))); (first | (refine wpOne_skip rfl rfl ?_; (try go_simp)) | (refine wpOne_1 rfl rfl ?_; intro K hK; go_simp; (first | (go_at_call 138; (with_reducible refine (slotAddr_any b s h t t _ HQ.out (by omega) (by omega)).mono ?_); rintro e w' ⟨rfl, hx⟩; replace HS := HS.grow hx; clear hx)); (try go_simp); refine hK _ _ ?_ ?_; (focus (exact stw HS)); clear hK K)))
      | ((with_reducible ((show wpOne _ _ _ _ 8 1 _ _ _))); (first | (refine wpOne_skip rfl rfl ?_; (try go_simp)) | (refine wpOne_1 rfl rfl ?_; intro K hK; go_simp; (first | (go_at_call 56; (with_reducible refine (dmaWrite_any _ _ l ps d (rslot b s t) e _ (k1.ex HS.ex) (k2.ex HS.ex) hl hd.out HSI.out he.out HD.out).mono ?_); rintro e w' ⟨A7, c7, rfl, ho, hx⟩; replace HS := HS.own ho hx; clear ho hx)); (try go_simp); refine hK _ _ ?_ ?_; (focus (exact stw HS)); clear hK K)))
      | ((with_reducible ((show wpPlan _ _ _ _ (.pure _ _) _ _))); (first | (refine wpPlan_skipP rfl rfl ?_; (try go_simp)) | (refine wpPlan_pure rfl rfl ?_; intro K hK; go_big_quiet_op; (first | go_big_quiet_on | (refine ⟨_, fun _ => rfl, ?_⟩; go_big_quiet_on)))))
      | ((with_reducible ((show wpOne _ _ _ _ 12 1 _ _ _))); (first | (refine wpOne_skip rfl rfl ?_; (try go_simp)) | (refine wpOne_1 rfl rfl ?_; intro K hK; (first | (refine wp_alloc_st  _ rfl zc_impl_Memory HS ?_; clear HS; intro w13 b13 hb13 HS)); (try go_simp); refine hK _ _ ?_ ?_; (focus (exact stw HS)); clear hK K)))
      | ((with_reducible ((show wpOne _ _ _ _ 13 2 _ _ _))); (first | (refine wpOne_skip rfl rfl ?_; (try go_simp)) | (refine wpOne_2 rfl rfl ?_; intro K hK; (first | (refine wp_store_st  _ _ _ rfl rfl (v := .agg (List.toArray _)) rfl HS tk sz_impl_Memory vcs rfx rfx (by simp) ?_ rfl; clear HS; intro w3_13 hz3_13 HS; simp only [nicL, Value.cells, List.append_nil] at HS) | (refine wp_store_st  _ _ _ rfl rfl (v := .agg _) rfl HS tk sz_impl_Memory vcs rfx rfx (by simp) ?_ rfl; clear HS; intro w3_13 hz3_13 HS; simp only [nicL, Value.cells, List.append_nil] at HS)); (try go_simp); refine hK _ _ ?_; clear hK K)))
      | ((with_reducible (first | (show wpOne _ _ _ _ 14 2 _ _ _) | (show wpOne _ _ _ _ 9 2 _ _ _))); (first | (refine wpOne_skip rfl rfl ?_; (try go_simp)) | (refine wpOne_2 rfl rfl ?_; intro K hK; go_simp; refine hK _ _ ?_; clear hK K)))
      | ((with_reducible ((show wpOne _ _ _ _ 8 2 _ _ _))); (first | (refine wpOne_skip rfl rfl ?_; (try go_simp)) | (refine wpOne_2 rfl rfl ?_; intro K hK; go_simp; (first | (go_at_call 56; (with_reducible refine (dmaWrite_any _ _ l ps d (rslot b s t) e _ (k1.ex HS.ex) (k2.ex HS.ex) hl hd.out HSI.out he.out HD.out).mono ?_); rintro e w' ⟨A7, c7, rfl, ho, hx⟩; replace HS := HS.own ho hx; clear ho hx)); (try go_simp); refine hK _ _ ?_; clear hK K)))
      | (with_reducible refine wpPlan_done ?_))
    all_goals
      go_wp2_with (first
            | ((with_reducible (show wpList _ _ _ (Oper.mk (some 43) (Op.load _ _) _ _ _ _ :: _) _ _)); refine wpList_loadS_st (o := ⟨some 43, .load _ _, _, _, _, _⟩) rfl _ _ rfl rfl HS tk sc_int rfx ?_)
            | ((with_reducible (show wpList _ _ _ (Oper.mk (some 46) (Op.load _ _) _ _ _ _ :: _) _ _)); refine wpList_loadS_st (o := ⟨some 46, .load _ _, _, _, _, _⟩) rfl _ _ rfl rfl HS tk sc_int rfx ?_)
            | ((with_reducible (show wpList _ _ _ (Oper.mk none (Op.store _ (.tmp 49) _) _ _ _ _ :: _) _ _)); refine wpList_store_st (o := ⟨none, .store _ (.tmp 49) _, _, _, _, _⟩) rfl _ _ _ rfl rfl (v := .int .i64 _) rfl HS tk sz_int vcs rfx rfx (by simp) ?_ rfl; clear HS; intro w6_8 hz6_8 HS; simp only [nicL, Value.cells, List.append_nil] at HS))
      refine wp_region_plan_st (HS.arr (show Arr _ [rowA b13 _ _, rowA b8 _ _] from ary)) (.early 0 (.early 1 (.forced 2 1 (.forced 3 2 (.forced 4 2 .done))))) (by kernel_rfl) (by as_aux_lemma => kernel_rfl) ?_
      intro hne
      replace HS := HS.drew
      try go_simp
      repeat' (first
        | (with_reducible refine wpPlan_forced ?_)
        | ((with_reducible ((show wpPlan _ _ _ _ (.early 0 _) _ _))); (first | (refine wpPlan_skipE rfl rfl ?_; (try go_simp)) | (refine wpPlan_early rfl rfl ?_; intro K hK; (first | ((refine quiet_loadA_st  _ _ rfl rfl tk ag_impl_Memory lit rfl ?_); (try go_simp)) | go_big_quiet_op); (first | go_big_quiet_on | (refine ⟨_, fun _ => rfl, ?_⟩; go_big_quiet_on)))))
        | ((with_reducible ((show wpPlan _ _ _ _ (.early 1 _) _ _))); (first | (refine wpPlan_skipE rfl rfl ?_; (try go_simp)) | (refine wpPlan_early rfl rfl ?_; intro K hK; (first | ((refine quiet_loadA_st  _ _ rfl rfl tk ag_impl_Ring lit rfl ?_); (try go_simp)) | go_big_quiet_op); (first | go_big_quiet_on | (refine ⟨_, fun _ => rfl, ?_⟩; go_big_quiet_on)))))
        | ((with_reducible ((show wpOne _ _ _ _ 2 1 _ _ _))); (first | (refine wpOne_skip rfl rfl ?_; (try go_simp)) | (refine wpOne_1 rfl rfl ?_; intro K hK; (first | (refine wp_store_st  _ _ _ rfl rfl (v := .agg (List.toArray _)) rfl HS tk sz_impl_Memory vcs rfx rfx (by simp) ?_ rfl; clear HS; intro w7_2 hz7_2 HS; simp only [nicL, Value.cells, List.append_nil] at HS) | (refine wp_store_st  _ _ _ rfl rfl (v := .agg _) rfl HS tk sz_impl_Memory vcs rfx rfx (by simp) ?_ rfl; clear HS; intro w7_2 hz7_2 HS; simp only [nicL, Value.cells, List.append_nil] at HS)); (try go_simp); refine hK _ _ ?_ ?_; (focus (exact stw HS)); clear hK K)))
        | ((with_reducible ((show wpOne _ _ _ _ 3 2 _ _ _))); (first | (refine wpOne_skip rfl rfl ?_; (try go_simp)) | (refine wpOne_2 rfl rfl ?_; intro K hK; (first | (refine wp_store_st  _ _ _ rfl rfl (v := .agg (List.toArray _)) rfl HS tk sz_impl_Ring vcs rfx rfx (by simp) ?_ rfl; clear HS; intro w7_3 hz7_3 HS; simp only [nicL, Value.cells, List.append_nil] at HS) | (refine wp_store_st  _ _ _ rfl rfl (v := .agg _) rfl HS tk sz_impl_Ring vcs rfx rfx (by simp) ?_ rfl; clear HS; intro w7_3 hz7_3 HS; simp only [nicL, Value.cells, List.append_nil] at HS)); (try go_simp); refine hK _ _ ?_; clear hK K)))
        | ((with_reducible ((show wpOne _ _ _ _ 4 2 _ _ _))); (first | (refine wpOne_skip rfl rfl ?_; (try go_simp)) | (refine wpOne_2 rfl rfl ?_; intro K hK; go_simp; refine hK _ _ ?_; clear hK K)))
        | (with_reducible refine wpPlan_done ?_))
      all_goals
        go_wp2
        rw [HN.out]
        refine bodyPost_rets rfx (RVs.cell rfx HS tk ag_impl_Memory rfx (RVs.cell rfx HS tk ag_impl_Ring rfx (RVs.tmp rfx RVs.nil))) (by simp) rfx ?_
        exact retRing HS tk

set_option maxRecDepth 100000 in
set_option maxHeartbeats 4000000 in
theorem ringTake_any (v1 v2 : Value) (l : List Mp) (ps : Pg) (d b s h t : Int) (w : World) (k1 : Holds w l [v1]) (k2 : Holds w ps [v2]) (hd : i64ok d) {x : ByteArray} {h2 : Int} {ok : Bool} (hr : (x, h2, ok) = rtakeF l ps d b s h t) :
    Calls Try.prog 89 #[v1, .agg #[v2], .int .i64 d, .agg #[.int .i64 b, .int .i64 s, .int .i64 h, .int .i64 t]] w fun e w' => e = .returned (.tuple #[.string x, .agg #[.int .i64 b, .int .i64 s, .int .i64 h2, .int .i64 t], .bool ok]) ∧ Ex w w' := by
  obtain ⟨AA, cap, rfl, z1, z2⟩ := k1.fl
  unfold maxLen at z2
  obtain ⟨BB, cap2, rfl, y1, y2⟩ := k2.fl
  unfold maxLen at y2
  replace hd := hid hd
  unfold rtakeF at hr
  cases hq : ringOkB b s h t
  case false =>
    have HQ := hid hq
    rw [hq, if_neg (by decide)] at hr
    simp only [Prod.mk.injEq] at hr
    obtain ⟨rfl, e2, rfl⟩ := hr
    replace e2 := e2.symm
    subst e2
    clear hq
    have HS := St.start w
    go_enter Try.func89, Try.ntmps89
    go_wp2_with (first
          | (go_at_call 87; (with_reducible refine (ringOk_any b s h t _).mono ?_); rintro e w' ⟨rfl, hx⟩; rw [HQ.out]; replace HS := HS.grow hx; clear hx)
          | ((with_reducible (show wpList _ _ _ (Oper.mk (some 5) (Op.box _ _) _ _ _ _ :: _) _ _)); refine wpList_box_st (o := ⟨some 5, .box _ _, _, _, _, _⟩) rfl _ _ rfl (v := .agg (List.toArray _)) rfl HS ?_; clear HS; intro w5 b5 hb5 HS; simp only [Value.cells] at HS)
          | ((with_reducible (show wpList _ _ _ (Oper.mk (some 7) (Op.box _ _) _ _ _ _ :: _) _ _)); refine wpList_box_st (o := ⟨some 7, .box _ _, _, _, _, _⟩) rfl _ _ rfl (v := .agg (List.toArray _)) rfl HS ?_; clear HS; intro w7 b7 hb7 HS; simp only [Value.cells] at HS)
          | ((with_reducible (show wpList _ _ _ (Oper.mk (some 9) (Op.alloc _) _ _ _ _ :: _) _ _)); refine wpList_alloc_st (o := ⟨some 9, .alloc _, _, _, _, _⟩) rfl _ rfl zc_impl_Ring HS ?_; clear HS; intro w9 b9 hb9 HS)
          | ((with_reducible (show wpList _ _ _ (Oper.mk (some 13) (Op.load _ _) _ _ _ _ :: _) _ _)); refine wpList_loadA_st (o := ⟨some 13, .load _ _, _, _, _, _⟩) rfl _ _ rfl rfl HS tk ag_impl_Ring lit rfl ?_))
    refine wp_region_plan_st (HS.arr (show Arr _ [rowA b7 _ _] from ary)) (.early 0 (.forced 1 1 (.forced 2 2 (.forced 3 2 .done)))) (by kernel_rfl) (by as_aux_lemma => kernel_rfl) ?_
    intro hne
    replace HS := HS.drew
    try go_simp
    repeat' (first
      | (with_reducible refine wpPlan_forced ?_)
      | ((with_reducible ((show wpPlan _ _ _ _ (.early 0 _) _ _))); (first | (refine wpPlan_skipE rfl rfl ?_; (try go_simp)) | (refine wpPlan_early rfl rfl ?_; intro K hK; (first | ((refine quiet_loadA_st  _ _ rfl rfl tk ag_impl_Ring lit rfl ?_); (try go_simp)) | go_big_quiet_op); (first | go_big_quiet_on | (refine ⟨_, fun _ => rfl, ?_⟩; go_big_quiet_on)))))
      | ((with_reducible ((show wpOne _ _ _ _ 1 1 _ _ _))); (first | (refine wpOne_skip rfl rfl ?_; (try go_simp)) | (refine wpOne_1 rfl rfl ?_; intro K hK; go_simp; refine hK _ _ ?_ ?_; (focus (exact stw HS)); clear hK K)))
      | ((with_reducible ((show wpOne _ _ _ _ 2 2 _ _ _))); (first | (refine wpOne_skip rfl rfl ?_; (try go_simp)) | (refine wpOne_2 rfl rfl ?_; intro K hK; (first | (refine wp_store_st  _ _ _ rfl rfl (v := .agg (List.toArray _)) rfl HS tk sz_impl_Ring vcs rfx rfx (by simp) ?_ rfl; clear HS; intro w2_2 hz2_2 HS; simp only [nicL, Value.cells, List.append_nil] at HS) | (refine wp_store_st  _ _ _ rfl rfl (v := .agg _) rfl HS tk sz_impl_Ring vcs rfx rfx (by simp) ?_ rfl; clear HS; intro w2_2 hz2_2 HS; simp only [nicL, Value.cells, List.append_nil] at HS)); (try go_simp); refine hK _ _ ?_; clear hK K)))
      | ((with_reducible ((show wpOne _ _ _ _ 3 2 _ _ _))); (first | (refine wpOne_skip rfl rfl ?_; (try go_simp)) | (refine wpOne_2 rfl rfl ?_; intro K hK; go_simp; refine hK _ _ ?_; clear hK K)))
      | (with_reducible refine wpPlan_done ?_))
    all_goals
      go_wp2
      refine bodyPost_rets rfx (RVs.tmp rfx (RVs.cell rfx HS tk ag_impl_Ring rfx (RVs.tmp rfx RVs.nil))) (by simp) rfx ?_
      exact ⟨rfl, HS.ex⟩
  case true =>
  have HQ := hid hq
  rw [hq, if_pos rfl] at hr
  obtain ⟨sb0, sb1⟩ := rslot_bd hq h
  have HSI : Hid (i64ok (rslot b s h)) := hid (by unfold i64ok; omega)
  obtain ⟨hs, b0, b1, s0, s1, h0, h1, t0, t1, u1, u0⟩ := ringOk_facts hq
  have HZ := hid hs
  obtain ⟨uv, huv⟩ : ∃ v, (t - h) % (2 * s) = v := ⟨_, rfl⟩
  have HU := hid huv
  unfold usedF at hr
  rw [huv] at hr u0 u1
  clear hs hq sb0 sb1 huv
  by_cases hz : uv = 0
  case pos =>
    rw [if_pos hz] at hr
    simp only [Prod.mk.injEq] at hr
    obtain ⟨rfl, e2, rfl⟩ := hr
    replace e2 := e2.symm
    subst e2
    have z3 : (uv == 0) = true := by simp [hz]
    clear hz
    have HS := St.start w
    go_enter Try.func89, Try.ntmps89
    go_wp2_with (first
          | (go_at_call 87; (with_reducible refine (ringOk_any b s h t _).mono ?_); rintro e w' ⟨rfl, hx⟩; rw [HQ.out]; replace HS := HS.grow hx; clear hx)
          | (go_at_call 88; (with_reducible refine (ringUsed_any b s h t HZ.out (by omega) (by omega) (by omega) (by omega) _).mono ?_); rintro e w' ⟨rfl, hx⟩; rw [HU.out]; replace HS := HS.grow hx; clear hx)
          | ((with_reducible (show wpList _ _ _ (Oper.mk (some 5) (Op.box _ _) _ _ _ _ :: _) _ _)); refine wpList_box_st (o := ⟨some 5, .box _ _, _, _, _, _⟩) rfl _ _ rfl (v := .agg (List.toArray _)) rfl HS ?_; clear HS; intro w5 b5 hb5 HS; simp only [Value.cells] at HS)
          | ((with_reducible (show wpList _ _ _ (Oper.mk (some 7) (Op.box _ _) _ _ _ _ :: _) _ _)); refine wpList_box_st (o := ⟨some 7, .box _ _, _, _, _, _⟩) rfl _ _ rfl (v := .agg (List.toArray _)) rfl HS ?_; clear HS; intro w7 b7 hb7 HS; simp only [Value.cells] at HS)
          | ((with_reducible (show wpList _ _ _ (Oper.mk (some 9) (Op.alloc _) _ _ _ _ :: _) _ _)); refine wpList_alloc_st (o := ⟨some 9, .alloc _, _, _, _, _⟩) rfl _ rfl zc_impl_Ring HS ?_; clear HS; intro w9 b9 hb9 HS)
          | ((with_reducible (show wpList _ _ _ (Oper.mk (some 13) (Op.load _ _) _ _ _ _ :: _) _ _)); refine wpList_loadA_st (o := ⟨some 13, .load _ _, _, _, _, _⟩) rfl _ _ rfl rfl HS tk ag_impl_Ring lit rfl ?_)
          | ((with_reducible (show wpList _ _ _ (Oper.mk (some 17) (Op.load _ _) _ _ _ _ :: _) _ _)); refine wpList_loadA_st (o := ⟨some 17, .load _ _, _, _, _, _⟩) rfl _ _ rfl rfl HS tk ag_impl_Ring lit rfl ?_))
    refine wp_region_plan_st (HS.arr (show Arr _ [rowA b7 _ _] from ary)) (.early 0 (.forced 1 1 (.forced 2 2 (.forced 3 2 .done)))) (by kernel_rfl) (by as_aux_lemma => kernel_rfl) ?_
    intro hne
    replace HS := HS.drew
    try go_simp
    repeat' (first
      | (with_reducible refine wpPlan_forced ?_)
      | ((with_reducible ((show wpPlan _ _ _ _ (.early 0 _) _ _))); (first | (refine wpPlan_skipE rfl rfl ?_; (try go_simp)) | (refine wpPlan_early rfl rfl ?_; intro K hK; (first | ((refine quiet_loadA_st  _ _ rfl rfl tk ag_impl_Ring lit rfl ?_); (try go_simp)) | go_big_quiet_op); (first | go_big_quiet_on | (refine ⟨_, fun _ => rfl, ?_⟩; go_big_quiet_on)))))
      | ((with_reducible ((show wpOne _ _ _ _ 1 1 _ _ _))); (first | (refine wpOne_skip rfl rfl ?_; (try go_simp)) | (refine wpOne_1 rfl rfl ?_; intro K hK; go_simp; refine hK _ _ ?_ ?_; (focus (exact stw HS)); clear hK K)))
      | ((with_reducible ((show wpOne _ _ _ _ 2 2 _ _ _))); (first | (refine wpOne_skip rfl rfl ?_; (try go_simp)) | (refine wpOne_2 rfl rfl ?_; intro K hK; (first | (refine wp_store_st  _ _ _ rfl rfl (v := .agg (List.toArray _)) rfl HS tk sz_impl_Ring vcs rfx rfx (by simp) ?_ rfl; clear HS; intro w2_2 hz2_2 HS; simp only [nicL, Value.cells, List.append_nil] at HS) | (refine wp_store_st  _ _ _ rfl rfl (v := .agg _) rfl HS tk sz_impl_Ring vcs rfx rfx (by simp) ?_ rfl; clear HS; intro w2_2 hz2_2 HS; simp only [nicL, Value.cells, List.append_nil] at HS)); (try go_simp); refine hK _ _ ?_; clear hK K)))
      | ((with_reducible ((show wpOne _ _ _ _ 3 2 _ _ _))); (first | (refine wpOne_skip rfl rfl ?_; (try go_simp)) | (refine wpOne_2 rfl rfl ?_; intro K hK; go_simp; refine hK _ _ ?_; clear hK K)))
      | (with_reducible refine wpPlan_done ?_))
    all_goals
      go_wp2
      refine bodyPost_rets rfx (RVs.tmp rfx (RVs.cell rfx HS tk ag_impl_Ring rfx (RVs.tmp rfx RVs.nil))) (by simp) rfx ?_
      exact ⟨rfl, HS.ex⟩
  case neg =>
  rw [if_neg hz] at hr
  have z3 : (uv == 0) = false := by simp [hz]
  clear hz
  obtain ⟨⟨x', k⟩, hD⟩ : ∃ r, r = dmaRF l ps d (rslot b s h) 16 := ⟨_, rfl⟩
  rw [← hD] at hr
  have HD := hid hD
  clear hD
  cases k
  case false =>
    simp only [Prod.mk.injEq] at hr
    obtain ⟨rfl, e2, rfl⟩ := hr
    replace e2 := e2.symm
    subst e2
    have HS := St.start w
    go_enter Try.func89, Try.ntmps89
    go_wp2_with (first
          | (go_at_call 87; (with_reducible refine (ringOk_any b s h t _).mono ?_); rintro e w' ⟨rfl, hx⟩; rw [HQ.out]; replace HS := HS.grow hx; clear hx)
          | (go_at_call 88; (with_reducible refine (ringUsed_any b s h t HZ.out (by omega) (by omega) (by omega) (by omega) _).mono ?_); rintro e w' ⟨rfl, hx⟩; rw [HU.out]; replace HS := HS.grow hx; clear hx)
          | ((with_reducible (show wpList _ _ _ (Oper.mk (some 5) (Op.box _ _) _ _ _ _ :: _) _ _)); refine wpList_box_st (o := ⟨some 5, .box _ _, _, _, _, _⟩) rfl _ _ rfl (v := .agg (List.toArray _)) rfl HS ?_; clear HS; intro w5 b5 hb5 HS; simp only [Value.cells] at HS)
          | ((with_reducible (show wpList _ _ _ (Oper.mk (some 7) (Op.box _ _) _ _ _ _ :: _) _ _)); refine wpList_box_st (o := ⟨some 7, .box _ _, _, _, _, _⟩) rfl _ _ rfl (v := .agg (List.toArray _)) rfl HS ?_; clear HS; intro w7 b7 hb7 HS; simp only [Value.cells] at HS)
          | ((with_reducible (show wpList _ _ _ (Oper.mk (some 9) (Op.alloc _) _ _ _ _ :: _) _ _)); refine wpList_alloc_st (o := ⟨some 9, .alloc _, _, _, _, _⟩) rfl _ rfl zc_impl_Ring HS ?_; clear HS; intro w9 b9 hb9 HS)
          | ((with_reducible (show wpList _ _ _ (Oper.mk (some 13) (Op.load _ _) _ _ _ _ :: _) _ _)); refine wpList_loadA_st (o := ⟨some 13, .load _ _, _, _, _, _⟩) rfl _ _ rfl rfl HS tk ag_impl_Ring lit rfl ?_)
          | ((with_reducible (show wpList _ _ _ (Oper.mk (some 17) (Op.load _ _) _ _ _ _ :: _) _ _)); refine wpList_loadA_st (o := ⟨some 17, .load _ _, _, _, _, _⟩) rfl _ _ rfl rfl HS tk ag_impl_Ring lit rfl ?_))
    refine wp_region_plan_st HS (.early 0 (.early 1 (.early 2 (.early 3 (.forced 4 1 (.forced 5 1 (.forced 6 1 (.forced 7 2 (.forced 8 2 (.pure 9 (.pure 10 (.forced 11 2 (.forced 12 2 .done))))))))))))) (by kernel_rfl) (by as_aux_lemma => kernel_rfl) ?_
    intro hne
    replace HS := HS.drew
    try go_simp
    repeat' (first
      | (with_reducible refine wpPlan_forced ?_)
      | ((with_reducible (first | (show wpPlan _ _ _ _ (.early 0 _) _ _) | (show wpPlan _ _ _ _ (.early 2 _) _ _))); (first | (refine wpPlan_skipE rfl rfl ?_; (try go_simp)) | (refine wpPlan_early rfl rfl ?_; intro K hK; (first | go_big_quiet_op); (first | go_big_quiet_on | (refine ⟨_, fun _ => rfl, ?_⟩; go_big_quiet_on)))))
      | ((with_reducible ((show wpPlan _ _ _ _ (.early 1 _) _ _))); (first | (refine wpPlan_skipE rfl rfl ?_; (try go_simp)) | (refine wpPlan_early rfl rfl ?_; intro K hK; (first | ((refine quiet_loadA_st  _ _ rfl rfl tk ag_impl_Memory lit rfl ?_); (try go_simp)) | go_big_quiet_op); (first | go_big_quiet_on | (refine ⟨_, fun _ => rfl, ?_⟩; go_big_quiet_on)))))
      | ((with_reducible ((show wpPlan _ _ _ _ (.early 3 _) _ _))); (first | (refine wpPlan_skipE rfl rfl ?_; (try go_simp)) | (refine wpPlan_early rfl rfl ?_; intro K hK; (first | ((refine quiet_loadA_st  _ _ rfl rfl tk ag_impl_Ring lit rfl ?_); (try go_simp)) | go_big_quiet_op); (first | go_big_quiet_on | (refine ⟨_, fun _ => rfl, ?_⟩; go_big_quiet_on)))))
      | ((with_reducible ((show wpOne _ _ _ _ 4 1 _ _ _))); (first | (refine wpOne_skip rfl rfl ?_; (try go_simp)) | (refine wpOne_1 rfl rfl ?_; intro K hK; go_simp; refine hK _ _ ?_ ?_; (focus (exact stw HS)); clear hK K)))
      | ((with_reducible ((show wpOne _ _ _ _ 5 1 _ _ _))); (first | (refine wpOne_skip rfl rfl ?_; (try go_simp)) | (refine wpOne_1 rfl rfl ?_; intro K hK; (first | (refine wp_loadS_st  _ _ rfl rfl HS tk sc_int rfx ?_)); (try go_simp); refine hK _ _ ?_ ?_; (focus (exact stw HS)); clear hK K)))
      | ((with_reducible ((show wpOne _ _ _ _ 6 1 _ _ _))); (first | (refine wpOne_skip rfl rfl ?_; (try go_simp)) | (refine wpOne_1 rfl rfl ?_; intro K hK; go_simp; (first | (go_at_call 138; (with_reducible refine (slotAddr_any b s h t h _ HQ.out (by omega) (by omega)).mono ?_); rintro e w' ⟨rfl, hx⟩; replace HS := HS.grow hx; clear hx)); (try go_simp); refine hK _ _ ?_ ?_; (focus (exact stw HS)); clear hK K)))
      | ((with_reducible ((show wpOne _ _ _ _ 7 2 _ _ _))); (first | (refine wpOne_skip rfl rfl ?_; (try go_simp)) | (refine wpOne_2 rfl rfl ?_; intro K hK; go_simp; (first | (go_at_call 60; (with_reducible refine (dmaRead_any _ _ l ps d (rslot b s h) 16 _ (k1.ex HS.ex) (k2.ex HS.ex) hd.out HSI.out (by unfold i64ok; omega) HD.out).mono ?_); rintro e w' ⟨rfl, hx⟩; replace HS := HS.grow hx; clear hx)); (try go_simp); refine hK _ _ ?_; clear hK K)))
      | ((with_reducible (first | (show wpOne _ _ _ _ 8 2 _ _ _) | (show wpOne _ _ _ _ 11 2 _ _ _) | (show wpOne _ _ _ _ 12 2 _ _ _))); (first | (refine wpOne_skip rfl rfl ?_; (try go_simp)) | (refine wpOne_2 rfl rfl ?_; intro K hK; go_simp; refine hK _ _ ?_; clear hK K)))
      | ((with_reducible ((show wpPlan _ _ _ _ (.pure _ _) _ _))); (first | (refine wpPlan_skipP rfl rfl ?_; (try go_simp)) | (refine wpPlan_pure rfl rfl ?_; intro K hK; go_big_quiet_op; (first | go_big_quiet_on | (refine ⟨_, fun _ => rfl, ?_⟩; go_big_quiet_on)))))
      | (with_reducible refine wpPlan_done ?_))
    all_goals
      go_wp2
      refine wp_region_plan_st (HS.arr (show Arr _ [rowA b7 _ _] from ary)) (.early 0 (.forced 1 1 (.forced 2 2 (.forced 3 2 .done)))) (by kernel_rfl) (by as_aux_lemma => kernel_rfl) ?_
      intro hne
      replace HS := HS.drew
      try go_simp
      repeat' (first
        | (with_reducible refine wpPlan_forced ?_)
        | ((with_reducible ((show wpPlan _ _ _ _ (.early 0 _) _ _))); (first | (refine wpPlan_skipE rfl rfl ?_; (try go_simp)) | (refine wpPlan_early rfl rfl ?_; intro K hK; (first | ((refine quiet_loadA_st  _ _ rfl rfl tk ag_impl_Ring lit rfl ?_); (try go_simp)) | go_big_quiet_op); (first | go_big_quiet_on | (refine ⟨_, fun _ => rfl, ?_⟩; go_big_quiet_on)))))
        | ((with_reducible ((show wpOne _ _ _ _ 1 1 _ _ _))); (first | (refine wpOne_skip rfl rfl ?_; (try go_simp)) | (refine wpOne_1 rfl rfl ?_; intro K hK; go_simp; refine hK _ _ ?_ ?_; (focus (exact stw HS)); clear hK K)))
        | ((with_reducible ((show wpOne _ _ _ _ 2 2 _ _ _))); (first | (refine wpOne_skip rfl rfl ?_; (try go_simp)) | (refine wpOne_2 rfl rfl ?_; intro K hK; (first | (refine wp_store_st  _ _ _ rfl rfl (v := .agg (List.toArray _)) rfl HS tk sz_impl_Ring vcs rfx rfx (by simp) ?_ rfl; clear HS; intro w5_2 hz5_2 HS; simp only [nicL, Value.cells, List.append_nil] at HS) | (refine wp_store_st  _ _ _ rfl rfl (v := .agg _) rfl HS tk sz_impl_Ring vcs rfx rfx (by simp) ?_ rfl; clear HS; intro w5_2 hz5_2 HS; simp only [nicL, Value.cells, List.append_nil] at HS)); (try go_simp); refine hK _ _ ?_; clear hK K)))
        | ((with_reducible ((show wpOne _ _ _ _ 3 2 _ _ _))); (first | (refine wpOne_skip rfl rfl ?_; (try go_simp)) | (refine wpOne_2 rfl rfl ?_; intro K hK; go_simp; refine hK _ _ ?_; clear hK K)))
        | (with_reducible refine wpPlan_done ?_))
      all_goals
        go_wp2
        refine bodyPost_rets rfx (RVs.tmp rfx (RVs.cell rfx HS tk ag_impl_Ring rfx (RVs.tmp rfx RVs.nil))) (by simp) rfx ?_
        exact ⟨rfl, HS.ex⟩
  case true =>
    simp only [Prod.mk.injEq] at hr
    obtain ⟨rfl, rfl, rfl⟩ := hr
    have q3 : (h + 1).tmod (2 * s) = (h + 1) % (2 * s) := Int.tmod_eq_emod_of_nonneg (by omega)
    have q4 : 2 * s ≠ 0 := by omega
    have q5 : (2 * s == 0) = false := by simp [q4]
    have HN : Hid (rnext s h = (h + 1) % (2 * s)) := hid rfl
    have HS := St.start w
    go_enter Try.func89, Try.ntmps89
    go_wp2_with (first
          | (go_at_call 87; (with_reducible refine (ringOk_any b s h t _).mono ?_); rintro e w' ⟨rfl, hx⟩; rw [HQ.out]; replace HS := HS.grow hx; clear hx)
          | (go_at_call 88; (with_reducible refine (ringUsed_any b s h t HZ.out (by omega) (by omega) (by omega) (by omega) _).mono ?_); rintro e w' ⟨rfl, hx⟩; rw [HU.out]; replace HS := HS.grow hx; clear hx)
          | ((with_reducible (show wpList _ _ _ (Oper.mk (some 5) (Op.box _ _) _ _ _ _ :: _) _ _)); refine wpList_box_st (o := ⟨some 5, .box _ _, _, _, _, _⟩) rfl _ _ rfl (v := .agg (List.toArray _)) rfl HS ?_; clear HS; intro w5 b5 hb5 HS; simp only [Value.cells] at HS)
          | ((with_reducible (show wpList _ _ _ (Oper.mk (some 7) (Op.box _ _) _ _ _ _ :: _) _ _)); refine wpList_box_st (o := ⟨some 7, .box _ _, _, _, _, _⟩) rfl _ _ rfl (v := .agg (List.toArray _)) rfl HS ?_; clear HS; intro w7 b7 hb7 HS; simp only [Value.cells] at HS)
          | ((with_reducible (show wpList _ _ _ (Oper.mk (some 9) (Op.alloc _) _ _ _ _ :: _) _ _)); refine wpList_alloc_st (o := ⟨some 9, .alloc _, _, _, _, _⟩) rfl _ rfl zc_impl_Ring HS ?_; clear HS; intro w9 b9 hb9 HS)
          | ((with_reducible (show wpList _ _ _ (Oper.mk (some 13) (Op.load _ _) _ _ _ _ :: _) _ _)); refine wpList_loadA_st (o := ⟨some 13, .load _ _, _, _, _, _⟩) rfl _ _ rfl rfl HS tk ag_impl_Ring lit rfl ?_)
          | ((with_reducible (show wpList _ _ _ (Oper.mk (some 17) (Op.load _ _) _ _ _ _ :: _) _ _)); refine wpList_loadA_st (o := ⟨some 17, .load _ _, _, _, _, _⟩) rfl _ _ rfl rfl HS tk ag_impl_Ring lit rfl ?_))
    refine wp_region_plan_st HS (.early 0 (.early 1 (.early 2 (.early 3 (.forced 4 1 (.forced 5 1 (.forced 6 1 (.forced 7 2 (.forced 8 2 (.pure 9 (.pure 10 (.forced 11 2 (.forced 12 2 .done))))))))))))) (by kernel_rfl) (by as_aux_lemma => kernel_rfl) ?_
    intro hne
    replace HS := HS.drew
    try go_simp
    repeat' (first
      | (with_reducible refine wpPlan_forced ?_)
      | ((with_reducible (first | (show wpPlan _ _ _ _ (.early 0 _) _ _) | (show wpPlan _ _ _ _ (.early 2 _) _ _))); (first | (refine wpPlan_skipE rfl rfl ?_; (try go_simp)) | (refine wpPlan_early rfl rfl ?_; intro K hK; (first | go_big_quiet_op); (first | go_big_quiet_on | (refine ⟨_, fun _ => rfl, ?_⟩; go_big_quiet_on)))))
      | ((with_reducible ((show wpPlan _ _ _ _ (.early 1 _) _ _))); (first | (refine wpPlan_skipE rfl rfl ?_; (try go_simp)) | (refine wpPlan_early rfl rfl ?_; intro K hK; (first | ((refine quiet_loadA_st  _ _ rfl rfl tk ag_impl_Memory lit rfl ?_); (try go_simp)) | go_big_quiet_op); (first | go_big_quiet_on | (refine ⟨_, fun _ => rfl, ?_⟩; go_big_quiet_on)))))
      | ((with_reducible ((show wpPlan _ _ _ _ (.early 3 _) _ _))); (first | (refine wpPlan_skipE rfl rfl ?_; (try go_simp)) | (refine wpPlan_early rfl rfl ?_; intro K hK; (first | ((refine quiet_loadA_st  _ _ rfl rfl tk ag_impl_Ring lit rfl ?_); (try go_simp)) | go_big_quiet_op); (first | go_big_quiet_on | (refine ⟨_, fun _ => rfl, ?_⟩; go_big_quiet_on)))))
      | ((with_reducible ((show wpOne _ _ _ _ 4 1 _ _ _))); (first | (refine wpOne_skip rfl rfl ?_; (try go_simp)) | (refine wpOne_1 rfl rfl ?_; intro K hK; go_simp; refine hK _ _ ?_ ?_; (focus (exact stw HS)); clear hK K)))
      | ((with_reducible ((show wpOne _ _ _ _ 5 1 _ _ _))); (first | (refine wpOne_skip rfl rfl ?_; (try go_simp)) | (refine wpOne_1 rfl rfl ?_; intro K hK; (first | (refine wp_loadS_st  _ _ rfl rfl HS tk sc_int rfx ?_)); (try go_simp); refine hK _ _ ?_ ?_; (focus (exact stw HS)); clear hK K)))
      | ((with_reducible ((show wpOne _ _ _ _ 6 1 _ _ _))); (first | (refine wpOne_skip rfl rfl ?_; (try go_simp)) | (refine wpOne_1 rfl rfl ?_; intro K hK; go_simp; (first | (go_at_call 138; (with_reducible refine (slotAddr_any b s h t h _ HQ.out (by omega) (by omega)).mono ?_); rintro e w' ⟨rfl, hx⟩; replace HS := HS.grow hx; clear hx)); (try go_simp); refine hK _ _ ?_ ?_; (focus (exact stw HS)); clear hK K)))
      | ((with_reducible ((show wpOne _ _ _ _ 7 2 _ _ _))); (first | (refine wpOne_skip rfl rfl ?_; (try go_simp)) | (refine wpOne_2 rfl rfl ?_; intro K hK; go_simp; (first | (go_at_call 60; (with_reducible refine (dmaRead_any _ _ l ps d (rslot b s h) 16 _ (k1.ex HS.ex) (k2.ex HS.ex) hd.out HSI.out (by unfold i64ok; omega) HD.out).mono ?_); rintro e w' ⟨rfl, hx⟩; replace HS := HS.grow hx; clear hx)); (try go_simp); refine hK _ _ ?_; clear hK K)))
      | ((with_reducible (first | (show wpOne _ _ _ _ 8 2 _ _ _) | (show wpOne _ _ _ _ 11 2 _ _ _) | (show wpOne _ _ _ _ 12 2 _ _ _))); (first | (refine wpOne_skip rfl rfl ?_; (try go_simp)) | (refine wpOne_2 rfl rfl ?_; intro K hK; go_simp; refine hK _ _ ?_; clear hK K)))
      | ((with_reducible ((show wpPlan _ _ _ _ (.pure _ _) _ _))); (first | (refine wpPlan_skipP rfl rfl ?_; (try go_simp)) | (refine wpPlan_pure rfl rfl ?_; intro K hK; go_big_quiet_op; (first | go_big_quiet_on | (refine ⟨_, fun _ => rfl, ?_⟩; go_big_quiet_on)))))
      | (with_reducible refine wpPlan_done ?_))
    all_goals
      go_wp2_with (first
            | ((with_reducible (show wpList _ _ _ (Oper.mk (some 37) (Op.load _ _) _ _ _ _ :: _) _ _)); refine wpList_loadS_st (o := ⟨some 37, .load _ _, _, _, _, _⟩) rfl _ _ rfl rfl HS tk sc_int rfx ?_)
            | ((with_reducible (show wpList _ _ _ (Oper.mk (some 40) (Op.load _ _) _ _ _ _ :: _) _ _)); refine wpList_loadS_st (o := ⟨some 40, .load _ _, _, _, _, _⟩) rfl _ _ rfl rfl HS tk sc_int rfx ?_)
            | ((with_reducible (show wpList _ _ _ (Oper.mk none (Op.store _ (.tmp 43) _) _ _ _ _ :: _) _ _)); refine wpList_store_st (o := ⟨none, .store _ (.tmp 43) _, _, _, _, _⟩) rfl _ _ _ rfl rfl (v := .int .i64 _) rfl HS tk sz_int vcs rfx rfx (by simp) ?_ rfl; clear HS; intro w6_8 hz6_8 HS; simp only [nicL, Value.cells, List.append_nil] at HS))
      refine wp_region_plan_st (HS.arr (show Arr _ [rowA b7 _ _] from ary)) (.early 0 (.early 1 (.forced 2 1 (.forced 3 2 (.forced 4 2 .done))))) (by kernel_rfl) (by as_aux_lemma => kernel_rfl) ?_
      intro hne
      replace HS := HS.drew
      try go_simp
      repeat' (first
        | (with_reducible refine wpPlan_forced ?_)
        | ((with_reducible ((show wpPlan _ _ _ _ (.early 0 _) _ _))); (first | (refine wpPlan_skipE rfl rfl ?_; (try go_simp)) | (refine wpPlan_early rfl rfl ?_; intro K hK; (first | go_big_quiet_op); (first | go_big_quiet_on | (refine ⟨_, fun _ => rfl, ?_⟩; go_big_quiet_on)))))
        | ((with_reducible ((show wpPlan _ _ _ _ (.early 1 _) _ _))); (first | (refine wpPlan_skipE rfl rfl ?_; (try go_simp)) | (refine wpPlan_early rfl rfl ?_; intro K hK; (first | ((refine quiet_loadA_st  _ _ rfl rfl tk ag_impl_Ring lit rfl ?_); (try go_simp)) | go_big_quiet_op); (first | go_big_quiet_on | (refine ⟨_, fun _ => rfl, ?_⟩; go_big_quiet_on)))))
        | ((with_reducible ((show wpOne _ _ _ _ 2 1 _ _ _))); (first | (refine wpOne_skip rfl rfl ?_; (try go_simp)) | (refine wpOne_1 rfl rfl ?_; intro K hK; go_simp; refine hK _ _ ?_ ?_; (focus (exact stw HS)); clear hK K)))
        | ((with_reducible ((show wpOne _ _ _ _ 3 2 _ _ _))); (first | (refine wpOne_skip rfl rfl ?_; (try go_simp)) | (refine wpOne_2 rfl rfl ?_; intro K hK; (first | (refine wp_store_st  _ _ _ rfl rfl (v := .agg (List.toArray _)) rfl HS tk sz_impl_Ring vcs rfx rfx (by simp) ?_ rfl; clear HS; intro w7_3 hz7_3 HS; simp only [nicL, Value.cells, List.append_nil] at HS) | (refine wp_store_st  _ _ _ rfl rfl (v := .agg _) rfl HS tk sz_impl_Ring vcs rfx rfx (by simp) ?_ rfl; clear HS; intro w7_3 hz7_3 HS; simp only [nicL, Value.cells, List.append_nil] at HS)); (try go_simp); refine hK _ _ ?_; clear hK K)))
        | ((with_reducible ((show wpOne _ _ _ _ 4 2 _ _ _))); (first | (refine wpOne_skip rfl rfl ?_; (try go_simp)) | (refine wpOne_2 rfl rfl ?_; intro K hK; go_simp; refine hK _ _ ?_; clear hK K)))
        | (with_reducible refine wpPlan_done ?_))
      all_goals
        go_wp2
        refine bodyPost_rets rfx (RVs.tmp rfx (RVs.cell rfx HS tk ag_impl_Ring rfx (RVs.tmp rfx RVs.nil))) (by simp) rfx ?_
        rw [HN.out]
        exact ⟨rfl, HS.ex⟩

set_option maxRecDepth 100000 in
set_option maxHeartbeats 4000000 in
theorem ringPutS_any (v1 v2 : Value) (l : List Mp) (ps : Pg) (d b s h t : Int) (e : ByteArray) (w : World) (k1 : Holds w l [v1]) (k2 : Holds w ps [v2]) (hl : ps.length ≤ 1099511627776) (hd : i64ok d) (he : e.size ≤ 9223372036854775807) {qs : Pg} {t2 : Int} {ok : Bool} (hr : (qs, t2, ok) = rputF l ps d b s h t e) :
    Calls Try.prog 96 #[v1, .agg #[v2], .int .i64 d, .agg #[.int .i64 b, .int .i64 s, .int .i64 h, .int .i64 t], .string e] w (RetRing w qs b s h t2 ok) := by
  obtain ⟨AA, cap, rfl, z1, z2⟩ := k1.fl
  unfold maxLen at z2
  obtain ⟨BB, cap2, rfl, y1, y2⟩ := k2.fl
  unfold maxLen at y2
  replace hd := hid hd
  replace he := hid he
  unfold rputF at hr
  obtain ⟨fv, hfv⟩ : ∃ v, freeF b s h t = v := ⟨_, rfl⟩
  have HF := hid hfv
  by_cases hz : fv = 0
  case pos =>
    rw [hfv, if_pos hz] at hr
    simp only [Prod.mk.injEq] at hr
    obtain ⟨e1, e2, rfl⟩ := hr
    replace e1 := e1.symm
    subst e1
    replace e2 := e2.symm
    subst e2
    have z3 : (fv == 0) = true := by simp [hz]
    clear hfv hz
    have HS := St.start w
    go_enter Try.func96, Try.ntmps96
    go_wp2_with (first
          | (go_at_call 95; (with_reducible refine (ringFreeS_any b s h t _).mono ?_); rintro e w' ⟨rfl, hx⟩; rw [HF.out]; replace HS := HS.grow hx; clear hx)
          | ((with_reducible (show wpList _ _ _ (Oper.mk (some 6) (Op.box _ _) _ _ _ _ :: _) _ _)); refine wpList_box_st (o := ⟨some 6, .box _ _, _, _, _, _⟩) rfl _ _ rfl (v := .agg (List.toArray _)) rfl HS ?_; clear HS; intro w6 b6 hb6 HS; simp only [Value.cells] at HS)
          | ((with_reducible (show wpList _ _ _ (Oper.mk (some 8) (Op.box _ _) _ _ _ _ :: _) _ _)); refine wpList_box_st (o := ⟨some 8, .box _ _, _, _, _, _⟩) rfl _ _ rfl (v := .agg (List.toArray _)) rfl HS ?_; clear HS; intro w8 b8 hb8 HS; simp only [Value.cells] at HS)
          | ((with_reducible (show wpList _ _ _ (Oper.mk (some 10) (Op.alloc _) _ _ _ _ :: _) _ _)); refine wpList_alloc_st (o := ⟨some 10, .alloc _, _, _, _, _⟩) rfl _ rfl zc_impl_Memory HS ?_; clear HS; intro w10 b10 hb10 HS)
          | ((with_reducible (show wpList _ _ _ (Oper.mk (some 11) (Op.alloc _) _ _ _ _ :: _) _ _)); refine wpList_alloc_st (o := ⟨some 11, .alloc _, _, _, _, _⟩) rfl _ rfl zc_impl_Ring HS ?_; clear HS; intro w11 b11 hb11 HS)
          | ((with_reducible (show wpList _ _ _ (Oper.mk (some 15) (Op.load _ _) _ _ _ _ :: _) _ _)); refine wpList_loadA_st (o := ⟨some 15, .load _ _, _, _, _, _⟩) rfl _ _ rfl rfl HS tk ag_impl_Ring lit rfl ?_))
    refine wp_region_plan_st (HS.arr (show Arr _ [rowA b6 _ _, rowA b8 _ _] from ary)) (.early 0 (.early 2 (.forced 1 1 (.forced 3 1 (.forced 4 2 (.forced 5 2 .done)))))) (by kernel_rfl) (by as_aux_lemma => kernel_rfl) ?_
    intro hne
    replace HS := HS.drew
    try go_simp
    repeat' (first
      | (with_reducible refine wpPlan_forced ?_)
      | ((with_reducible ((show wpPlan _ _ _ _ (.early 0 _) _ _))); (first | (refine wpPlan_skipE rfl rfl ?_; (try go_simp)) | (refine wpPlan_early rfl rfl ?_; intro K hK; (first | ((refine quiet_loadA_st  _ _ rfl rfl tk ag_impl_Memory lit rfl ?_); (try go_simp)) | go_big_quiet_op); (first | go_big_quiet_on | (refine ⟨_, fun _ => rfl, ?_⟩; go_big_quiet_on)))))
      | ((with_reducible ((show wpPlan _ _ _ _ (.early 2 _) _ _))); (first | (refine wpPlan_skipE rfl rfl ?_; (try go_simp)) | (refine wpPlan_early rfl rfl ?_; intro K hK; (first | ((refine quiet_loadA_st  _ _ rfl rfl tk ag_impl_Ring lit rfl ?_); (try go_simp)) | go_big_quiet_op); (first | go_big_quiet_on | (refine ⟨_, fun _ => rfl, ?_⟩; go_big_quiet_on)))))
      | ((with_reducible ((show wpOne _ _ _ _ 1 1 _ _ _))); (first | (refine wpOne_skip rfl rfl ?_; (try go_simp)) | (refine wpOne_1 rfl rfl ?_; intro K hK; go_simp; (first | (go_at_call 74; (with_reducible refine (l16CopyS_any _ ps _ (k2.ex HS.ex) hl).mono ?_); rintro e w' ⟨A0, c0, rfl, ho, hx⟩; replace HS := HS.own ho hx; clear ho hx)); (try go_simp); refine hK _ _ ?_ ?_; (focus (exact stw HS)); clear hK K)))
      | ((with_reducible ((show wpOne _ _ _ _ 3 1 _ _ _))); (first | (refine wpOne_skip rfl rfl ?_; (try go_simp)) | (refine wpOne_1 rfl rfl ?_; intro K hK; (first | (refine wp_store_st  _ _ _ rfl rfl (v := .agg (List.toArray _)) rfl HS tk sz_impl_Memory vcs rfx rfx (by simp) ?_ rfl; clear HS; intro w2_3 hz2_3 HS; simp only [nicL, Value.cells, List.append_nil] at HS) | (refine wp_store_st  _ _ _ rfl rfl (v := .agg _) rfl HS tk sz_impl_Memory vcs rfx rfx (by simp) ?_ rfl; clear HS; intro w2_3 hz2_3 HS; simp only [nicL, Value.cells, List.append_nil] at HS)); (try go_simp); refine hK _ _ ?_ ?_; (focus (exact stw HS)); clear hK K)))
      | ((with_reducible ((show wpOne _ _ _ _ 4 2 _ _ _))); (first | (refine wpOne_skip rfl rfl ?_; (try go_simp)) | (refine wpOne_2 rfl rfl ?_; intro K hK; (first | (refine wp_store_st  _ _ _ rfl rfl (v := .agg (List.toArray _)) rfl HS tk sz_impl_Ring vcs rfx rfx (by simp) ?_ rfl; clear HS; intro w2_4 hz2_4 HS; simp only [nicL, Value.cells, List.append_nil] at HS) | (refine wp_store_st  _ _ _ rfl rfl (v := .agg _) rfl HS tk sz_impl_Ring vcs rfx rfx (by simp) ?_ rfl; clear HS; intro w2_4 hz2_4 HS; simp only [nicL, Value.cells, List.append_nil] at HS)); (try go_simp); refine hK _ _ ?_; clear hK K)))
      | ((with_reducible ((show wpOne _ _ _ _ 5 2 _ _ _))); (first | (refine wpOne_skip rfl rfl ?_; (try go_simp)) | (refine wpOne_2 rfl rfl ?_; intro K hK; go_simp; refine hK _ _ ?_; clear hK K)))
      | (with_reducible refine wpPlan_done ?_))
    all_goals
      go_wp2
      refine bodyPost_rets rfx (RVs.cell rfx HS tk ag_impl_Memory rfx (RVs.cell rfx HS tk ag_impl_Ring rfx (RVs.tmp rfx RVs.nil))) (by simp) rfx ?_
      exact retRing HS tk
  case neg =>
  rw [hfv, if_neg hz] at hr
  have z3 : (fv == 0) = false := by simp [hz]
  have hq : ringOkB b s h t = true := freeF_ok (by rw [hfv]; exact hz)
  clear hfv hz
  by_cases hsz : e.size = 16
  case neg =>
    rw [if_neg hsz] at hr
    simp only [Prod.mk.injEq] at hr
    obtain ⟨e1, e2, rfl⟩ := hr
    replace e1 := e1.symm
    subst e1
    replace e2 := e2.symm
    subst e2
    have z4 : ((e.size : Int) != 16) = true := by simp; omega
    clear hsz hq
    have HS := St.start w
    go_enter Try.func96, Try.ntmps96
    go_wp2_with (first
          | (go_at_call 95; (with_reducible refine (ringFreeS_any b s h t _).mono ?_); rintro e w' ⟨rfl, hx⟩; rw [HF.out]; replace HS := HS.grow hx; clear hx)
          | ((with_reducible (show wpList _ _ _ (Oper.mk (some 6) (Op.box _ _) _ _ _ _ :: _) _ _)); refine wpList_box_st (o := ⟨some 6, .box _ _, _, _, _, _⟩) rfl _ _ rfl (v := .agg (List.toArray _)) rfl HS ?_; clear HS; intro w6 b6 hb6 HS; simp only [Value.cells] at HS)
          | ((with_reducible (show wpList _ _ _ (Oper.mk (some 8) (Op.box _ _) _ _ _ _ :: _) _ _)); refine wpList_box_st (o := ⟨some 8, .box _ _, _, _, _, _⟩) rfl _ _ rfl (v := .agg (List.toArray _)) rfl HS ?_; clear HS; intro w8 b8 hb8 HS; simp only [Value.cells] at HS)
          | ((with_reducible (show wpList _ _ _ (Oper.mk (some 10) (Op.alloc _) _ _ _ _ :: _) _ _)); refine wpList_alloc_st (o := ⟨some 10, .alloc _, _, _, _, _⟩) rfl _ rfl zc_impl_Memory HS ?_; clear HS; intro w10 b10 hb10 HS)
          | ((with_reducible (show wpList _ _ _ (Oper.mk (some 11) (Op.alloc _) _ _ _ _ :: _) _ _)); refine wpList_alloc_st (o := ⟨some 11, .alloc _, _, _, _, _⟩) rfl _ rfl zc_impl_Ring HS ?_; clear HS; intro w11 b11 hb11 HS)
          | ((with_reducible (show wpList _ _ _ (Oper.mk (some 15) (Op.load _ _) _ _ _ _ :: _) _ _)); refine wpList_loadA_st (o := ⟨some 15, .load _ _, _, _, _, _⟩) rfl _ _ rfl rfl HS tk ag_impl_Ring lit rfl ?_))
    refine wp_region_plan_st (HS.arr (show Arr _ [rowA b6 _ _, rowA b8 _ _] from ary)) (.early 0 (.early 2 (.forced 1 1 (.forced 3 1 (.forced 4 2 (.forced 5 2 .done)))))) (by kernel_rfl) (by as_aux_lemma => kernel_rfl) ?_
    intro hne
    replace HS := HS.drew
    try go_simp
    repeat' (first
      | (with_reducible refine wpPlan_forced ?_)
      | ((with_reducible ((show wpPlan _ _ _ _ (.early 0 _) _ _))); (first | (refine wpPlan_skipE rfl rfl ?_; (try go_simp)) | (refine wpPlan_early rfl rfl ?_; intro K hK; (first | ((refine quiet_loadA_st  _ _ rfl rfl tk ag_impl_Memory lit rfl ?_); (try go_simp)) | go_big_quiet_op); (first | go_big_quiet_on | (refine ⟨_, fun _ => rfl, ?_⟩; go_big_quiet_on)))))
      | ((with_reducible ((show wpPlan _ _ _ _ (.early 2 _) _ _))); (first | (refine wpPlan_skipE rfl rfl ?_; (try go_simp)) | (refine wpPlan_early rfl rfl ?_; intro K hK; (first | ((refine quiet_loadA_st  _ _ rfl rfl tk ag_impl_Ring lit rfl ?_); (try go_simp)) | go_big_quiet_op); (first | go_big_quiet_on | (refine ⟨_, fun _ => rfl, ?_⟩; go_big_quiet_on)))))
      | ((with_reducible ((show wpOne _ _ _ _ 1 1 _ _ _))); (first | (refine wpOne_skip rfl rfl ?_; (try go_simp)) | (refine wpOne_1 rfl rfl ?_; intro K hK; go_simp; (first | (go_at_call 74; (with_reducible refine (l16CopyS_any _ ps _ (k2.ex HS.ex) hl).mono ?_); rintro e w' ⟨A0, c0, rfl, ho, hx⟩; replace HS := HS.own ho hx; clear ho hx)); (try go_simp); refine hK _ _ ?_ ?_; (focus (exact stw HS)); clear hK K)))
      | ((with_reducible ((show wpOne _ _ _ _ 3 1 _ _ _))); (first | (refine wpOne_skip rfl rfl ?_; (try go_simp)) | (refine wpOne_1 rfl rfl ?_; intro K hK; (first | (refine wp_store_st  _ _ _ rfl rfl (v := .agg (List.toArray _)) rfl HS tk sz_impl_Memory vcs rfx rfx (by simp) ?_ rfl; clear HS; intro w2_3 hz2_3 HS; simp only [nicL, Value.cells, List.append_nil] at HS) | (refine wp_store_st  _ _ _ rfl rfl (v := .agg _) rfl HS tk sz_impl_Memory vcs rfx rfx (by simp) ?_ rfl; clear HS; intro w2_3 hz2_3 HS; simp only [nicL, Value.cells, List.append_nil] at HS)); (try go_simp); refine hK _ _ ?_ ?_; (focus (exact stw HS)); clear hK K)))
      | ((with_reducible ((show wpOne _ _ _ _ 4 2 _ _ _))); (first | (refine wpOne_skip rfl rfl ?_; (try go_simp)) | (refine wpOne_2 rfl rfl ?_; intro K hK; (first | (refine wp_store_st  _ _ _ rfl rfl (v := .agg (List.toArray _)) rfl HS tk sz_impl_Ring vcs rfx rfx (by simp) ?_ rfl; clear HS; intro w2_4 hz2_4 HS; simp only [nicL, Value.cells, List.append_nil] at HS) | (refine wp_store_st  _ _ _ rfl rfl (v := .agg _) rfl HS tk sz_impl_Ring vcs rfx rfx (by simp) ?_ rfl; clear HS; intro w2_4 hz2_4 HS; simp only [nicL, Value.cells, List.append_nil] at HS)); (try go_simp); refine hK _ _ ?_; clear hK K)))
      | ((with_reducible ((show wpOne _ _ _ _ 5 2 _ _ _))); (first | (refine wpOne_skip rfl rfl ?_; (try go_simp)) | (refine wpOne_2 rfl rfl ?_; intro K hK; go_simp; refine hK _ _ ?_; clear hK K)))
      | (with_reducible refine wpPlan_done ?_))
    all_goals
      go_wp2
      refine bodyPost_rets rfx (RVs.cell rfx HS tk ag_impl_Memory rfx (RVs.cell rfx HS tk ag_impl_Ring rfx (RVs.tmp rfx RVs.nil))) (by simp) rfx ?_
      exact retRing HS tk
  case pos =>
  rw [if_pos hsz] at hr
  have z4 : ((e.size : Int) != 16) = false := by simp; omega
  clear hsz
  have HQ := hid hq
  obtain ⟨sb0, sb1⟩ := rslot_bd hq t
  have HSI : Hid (i64ok (rslot b s t)) := hid (by unfold i64ok; omega)
  obtain ⟨hs, b0, b1, s0, s1, h0, h1, t0, t1, u1, u0⟩ := ringOk_facts hq
  clear hs hq sb0 sb1 u1 u0
  obtain ⟨⟨rs, k⟩, hD⟩ : ∃ r, r = dmaWF l ps d (rslot b s t) e true := ⟨_, rfl⟩
  rw [← hD] at hr
  have HD := hid hD
  cases k
  case false =>
    have e3 := dmaWF_same' hD
    replace e3 := e3.symm
    subst e3
    simp only [Prod.mk.injEq] at hr
    obtain ⟨e1, e2, rfl⟩ := hr
    replace e1 := e1.symm
    subst e1
    replace e2 := e2.symm
    subst e2
    clear hD
    have HS := St.start w
    go_enter Try.func96, Try.ntmps96
    go_wp2_with (first
          | (go_at_call 95; (with_reducible refine (ringFreeS_any b s h t _).mono ?_); rintro e w' ⟨rfl, hx⟩; rw [HF.out]; replace HS := HS.grow hx; clear hx)
          | ((with_reducible (show wpList _ _ _ (Oper.mk (some 6) (Op.box _ _) _ _ _ _ :: _) _ _)); refine wpList_box_st (o := ⟨some 6, .box _ _, _, _, _, _⟩) rfl _ _ rfl (v := .agg (List.toArray _)) rfl HS ?_; clear HS; intro w6 b6 hb6 HS; simp only [Value.cells] at HS)
          | ((with_reducible (show wpList _ _ _ (Oper.mk (some 8) (Op.box _ _) _ _ _ _ :: _) _ _)); refine wpList_box_st (o := ⟨some 8, .box _ _, _, _, _, _⟩) rfl _ _ rfl (v := .agg (List.toArray _)) rfl HS ?_; clear HS; intro w8 b8 hb8 HS; simp only [Value.cells] at HS)
          | ((with_reducible (show wpList _ _ _ (Oper.mk (some 10) (Op.alloc _) _ _ _ _ :: _) _ _)); refine wpList_alloc_st (o := ⟨some 10, .alloc _, _, _, _, _⟩) rfl _ rfl zc_impl_Memory HS ?_; clear HS; intro w10 b10 hb10 HS)
          | ((with_reducible (show wpList _ _ _ (Oper.mk (some 11) (Op.alloc _) _ _ _ _ :: _) _ _)); refine wpList_alloc_st (o := ⟨some 11, .alloc _, _, _, _, _⟩) rfl _ rfl zc_impl_Ring HS ?_; clear HS; intro w11 b11 hb11 HS)
          | ((with_reducible (show wpList _ _ _ (Oper.mk (some 15) (Op.load _ _) _ _ _ _ :: _) _ _)); refine wpList_loadA_st (o := ⟨some 15, .load _ _, _, _, _, _⟩) rfl _ _ rfl rfl HS tk ag_impl_Ring lit rfl ?_))
    refine wp_region_plan_st HS (.early 0 (.early 1 (.early 2 (.early 3 (.early 4 (.early 5 (.early 7 (.fork 6 1 (.fork 8 1 (.pure 9 (.pure 10 (.pure 11 (.forced 12 1 (.forced 13 2 (.forced 14 2 .done)))))) 12 1 (.forced 8 2 (.forced 9 2 (.pure 10 (.pure 11 (.forced 13 2 (.forced 14 2 .done))))))) 12 1 (.forced 6 1 (.forced 8 2 (.forced 9 2 (.pure 10 (.pure 11 (.forced 13 2 (.forced 14 2 .done))))))))))))))) (by kernel_rfl) (by as_aux_lemma => kernel_rfl) ?_
    intro hne
    replace HS := HS.drew
    try go_simp
    repeat' (first
      | (with_reducible refine wpPlan_fork ?_ ?_)
      | (with_reducible refine wpPlan_forced ?_)
      | ((with_reducible (first | (show wpPlan _ _ _ _ (.early 0 _) _ _) | (show wpPlan _ _ _ _ (.early 2 _) _ _) | (show wpPlan _ _ _ _ (.early 4 _) _ _) | (show wpPlan _ _ _ _ (.early 7 _) _ _))); (first | (refine wpPlan_skipE rfl rfl ?_; (try go_simp)) | (refine wpPlan_early rfl rfl ?_; intro K hK; (first | go_big_quiet_op); (first | go_big_quiet_on | (refine ⟨_, fun _ => rfl, ?_⟩; go_big_quiet_on)))))
      | ((with_reducible ((show wpPlan _ _ _ _ (.early 1 _) _ _))); (first | (refine wpPlan_skipE rfl rfl ?_; (try go_simp)) | (refine wpPlan_early rfl rfl ?_; intro K hK; (first | ((refine quiet_loadA_st  _ _ rfl rfl tk ag_impl_Memory lit rfl ?_); (try go_simp)) | go_big_quiet_op); (first | go_big_quiet_on | (refine ⟨_, fun _ => rfl, ?_⟩; go_big_quiet_on)))))
      | ((with_reducible ((show wpPlan _ _ _ _ (.early 3 _) _ _))); (first | (refine wpPlan_skipE rfl rfl ?_; (try go_simp)) | (refine wpPlan_early rfl rfl ?_; intro K hK; (first | ((refine quiet_loadA_st  _ _ rfl rfl tk ag_impl_Ring lit rfl ?_); (try go_simp)) | go_big_quiet_op); (first | go_big_quiet_on | (refine ⟨_, fun _ => rfl, ?_⟩; go_big_quiet_on)))))
      | ((with_reducible ((show wpPlan _ _ _ _ (.early 5 _) _ _))); (first | (refine wpPlan_skipE rfl rfl ?_; (try go_simp)) | (refine wpPlan_early rfl rfl ?_; intro K hK; (first | ((refine quiet_loadS_st  _ _ rfl rfl tk sc_int rfx ?_); (try go_simp)) | go_big_quiet_op); (first | go_big_quiet_on | (refine ⟨_, fun _ => rfl, ?_⟩; go_big_quiet_on)))))
      | ((with_reducible ((show wpOne _ _ _ _ 6 1 _ _ _))); (first | (refine wpOne_skip rfl rfl ?_; (try go_simp)) | (refine wpOne_1 rfl rfl ?_; intro K hK; go_simp; (first | (go_at_call 136; (with_reducible refine (slotAddrS_any b s h t t _ HQ.out (by omega) (by omega)).mono ?_); rintro e w' ⟨rfl, hx⟩; replace HS := HS.grow hx; clear hx)); (try go_simp); refine hK _ _ ?_ ?_; (focus (exact stw HS)); clear hK K)))
      | ((with_reducible ((show wpOne _ _ _ _ 8 1 _ _ _))); (first | (refine wpOne_skip rfl rfl ?_; (try go_simp)) | (refine wpOne_1 rfl rfl ?_; intro K hK; go_simp; (first | (go_at_call 75; (with_reducible refine (dmaWriteS_any _ _ l ps d (rslot b s t) e _ (k1.ex HS.ex) (k2.ex HS.ex) hl hd.out HSI.out he.out HD.out).mono ?_); rintro e w' ⟨A7, c7, rfl, ho, hx⟩; replace HS := HS.own ho hx; clear ho hx)); (try go_simp); refine hK _ _ ?_ ?_; (focus (exact stw HS)); clear hK K)))
      | ((with_reducible ((show wpPlan _ _ _ _ (.pure _ _) _ _))); (first | (refine wpPlan_skipP rfl rfl ?_; (try go_simp)) | (refine wpPlan_pure rfl rfl ?_; intro K hK; go_big_quiet_op; (first | go_big_quiet_on | (refine ⟨_, fun _ => rfl, ?_⟩; go_big_quiet_on)))))
      | ((with_reducible ((show wpOne _ _ _ _ 12 1 _ _ _))); (first | (refine wpOne_skip rfl rfl ?_; (try go_simp)) | (refine wpOne_1 rfl rfl ?_; intro K hK; (first | (refine wp_alloc_st  _ rfl zc_impl_Memory HS ?_; clear HS; intro w13 b13 hb13 HS)); (try go_simp); refine hK _ _ ?_ ?_; (focus (exact stw HS)); clear hK K)))
      | ((with_reducible ((show wpOne _ _ _ _ 13 2 _ _ _))); (first | (refine wpOne_skip rfl rfl ?_; (try go_simp)) | (refine wpOne_2 rfl rfl ?_; intro K hK; (first | (refine wp_store_st  _ _ _ rfl rfl (v := .agg (List.toArray _)) rfl HS tk sz_impl_Memory vcs rfx rfx (by simp) ?_ rfl; clear HS; intro w3_13 hz3_13 HS; simp only [nicL, Value.cells, List.append_nil] at HS) | (refine wp_store_st  _ _ _ rfl rfl (v := .agg _) rfl HS tk sz_impl_Memory vcs rfx rfx (by simp) ?_ rfl; clear HS; intro w3_13 hz3_13 HS; simp only [nicL, Value.cells, List.append_nil] at HS)); (try go_simp); refine hK _ _ ?_; clear hK K)))
      | ((with_reducible (first | (show wpOne _ _ _ _ 14 2 _ _ _) | (show wpOne _ _ _ _ 9 2 _ _ _))); (first | (refine wpOne_skip rfl rfl ?_; (try go_simp)) | (refine wpOne_2 rfl rfl ?_; intro K hK; go_simp; refine hK _ _ ?_; clear hK K)))
      | ((with_reducible ((show wpOne _ _ _ _ 8 2 _ _ _))); (first | (refine wpOne_skip rfl rfl ?_; (try go_simp)) | (refine wpOne_2 rfl rfl ?_; intro K hK; go_simp; (first | (go_at_call 75; (with_reducible refine (dmaWriteS_any _ _ l ps d (rslot b s t) e _ (k1.ex HS.ex) (k2.ex HS.ex) hl hd.out HSI.out he.out HD.out).mono ?_); rintro e w' ⟨A7, c7, rfl, ho, hx⟩; replace HS := HS.own ho hx; clear ho hx)); (try go_simp); refine hK _ _ ?_; clear hK K)))
      | (with_reducible refine wpPlan_done ?_))
    all_goals
      go_wp2
      refine wp_region_plan_st (HS.arr (show Arr _ [rowA b6 _ _, rowA b8 _ _] from ary)) (.early 0 (.early 2 (.forced 1 1 (.forced 3 1 (.forced 4 2 (.forced 5 2 .done)))))) (by kernel_rfl) (by as_aux_lemma => kernel_rfl) ?_
      intro hne
      replace HS := HS.drew
      try go_simp
      repeat' (first
        | (with_reducible refine wpPlan_forced ?_)
        | ((with_reducible ((show wpPlan _ _ _ _ (.early 0 _) _ _))); (first | (refine wpPlan_skipE rfl rfl ?_; (try go_simp)) | (refine wpPlan_early rfl rfl ?_; intro K hK; (first | ((refine quiet_loadA_st  _ _ rfl rfl tk ag_impl_Memory lit rfl ?_); (try go_simp)) | go_big_quiet_op); (first | go_big_quiet_on | (refine ⟨_, fun _ => rfl, ?_⟩; go_big_quiet_on)))))
        | ((with_reducible ((show wpPlan _ _ _ _ (.early 2 _) _ _))); (first | (refine wpPlan_skipE rfl rfl ?_; (try go_simp)) | (refine wpPlan_early rfl rfl ?_; intro K hK; (first | ((refine quiet_loadA_st  _ _ rfl rfl tk ag_impl_Ring lit rfl ?_); (try go_simp)) | go_big_quiet_op); (first | go_big_quiet_on | (refine ⟨_, fun _ => rfl, ?_⟩; go_big_quiet_on)))))
        | ((with_reducible ((show wpOne _ _ _ _ 1 1 _ _ _))); (first | (refine wpOne_skip rfl rfl ?_; (try go_simp)) | (refine wpOne_1 rfl rfl ?_; intro K hK; go_simp; (first | (go_at_call 74; (with_reducible refine (l16CopyS_any _ ps _ (k2.ex HS.ex) hl).mono ?_); rintro e w' ⟨A0, c0, rfl, ho, hx⟩; replace HS := HS.own ho hx; clear ho hx)); (try go_simp); refine hK _ _ ?_ ?_; (focus (exact stw HS)); clear hK K)))
        | ((with_reducible ((show wpOne _ _ _ _ 3 1 _ _ _))); (first | (refine wpOne_skip rfl rfl ?_; (try go_simp)) | (refine wpOne_1 rfl rfl ?_; intro K hK; (first | (refine wp_store_st  _ _ _ rfl rfl (v := .agg (List.toArray _)) rfl HS tk sz_impl_Memory vcs rfx rfx (by simp) ?_ rfl; clear HS; intro w5_3 hz5_3 HS; simp only [nicL, Value.cells, List.append_nil] at HS) | (refine wp_store_st  _ _ _ rfl rfl (v := .agg _) rfl HS tk sz_impl_Memory vcs rfx rfx (by simp) ?_ rfl; clear HS; intro w5_3 hz5_3 HS; simp only [nicL, Value.cells, List.append_nil] at HS)); (try go_simp); refine hK _ _ ?_ ?_; (focus (exact stw HS)); clear hK K)))
        | ((with_reducible ((show wpOne _ _ _ _ 4 2 _ _ _))); (first | (refine wpOne_skip rfl rfl ?_; (try go_simp)) | (refine wpOne_2 rfl rfl ?_; intro K hK; (first | (refine wp_store_st  _ _ _ rfl rfl (v := .agg (List.toArray _)) rfl HS tk sz_impl_Ring vcs rfx rfx (by simp) ?_ rfl; clear HS; intro w5_4 hz5_4 HS; simp only [nicL, Value.cells, List.append_nil] at HS) | (refine wp_store_st  _ _ _ rfl rfl (v := .agg _) rfl HS tk sz_impl_Ring vcs rfx rfx (by simp) ?_ rfl; clear HS; intro w5_4 hz5_4 HS; simp only [nicL, Value.cells, List.append_nil] at HS)); (try go_simp); refine hK _ _ ?_; clear hK K)))
        | ((with_reducible ((show wpOne _ _ _ _ 5 2 _ _ _))); (first | (refine wpOne_skip rfl rfl ?_; (try go_simp)) | (refine wpOne_2 rfl rfl ?_; intro K hK; go_simp; refine hK _ _ ?_; clear hK K)))
        | (with_reducible refine wpPlan_done ?_))
      all_goals
        go_wp2
        refine bodyPost_rets rfx (RVs.cell rfx HS tk ag_impl_Memory rfx (RVs.cell rfx HS tk ag_impl_Ring rfx (RVs.tmp rfx RVs.nil))) (by simp) rfx ?_
        exact retRing HS tk
  case true =>
    simp only [Prod.mk.injEq] at hr
    obtain ⟨rfl, rfl, rfl⟩ := hr
    clear hD
    have q3 : (t + 1).tmod (2 * s) = (t + 1) % (2 * s) := Int.tmod_eq_emod_of_nonneg (by omega)
    have q4 : 2 * s ≠ 0 := by omega
    have q5 : (2 * s == 0) = false := by simp [q4]
    have HN : Hid (rnext s t = (t + 1) % (2 * s)) := hid rfl
    have HS := St.start w
    go_enter Try.func96, Try.ntmps96
    go_wp2_with (first
          | (go_at_call 95; (with_reducible refine (ringFreeS_any b s h t _).mono ?_); rintro e w' ⟨rfl, hx⟩; rw [HF.out]; replace HS := HS.grow hx; clear hx)
          | ((with_reducible (show wpList _ _ _ (Oper.mk (some 6) (Op.box _ _) _ _ _ _ :: _) _ _)); refine wpList_box_st (o := ⟨some 6, .box _ _, _, _, _, _⟩) rfl _ _ rfl (v := .agg (List.toArray _)) rfl HS ?_; clear HS; intro w6 b6 hb6 HS; simp only [Value.cells] at HS)
          | ((with_reducible (show wpList _ _ _ (Oper.mk (some 8) (Op.box _ _) _ _ _ _ :: _) _ _)); refine wpList_box_st (o := ⟨some 8, .box _ _, _, _, _, _⟩) rfl _ _ rfl (v := .agg (List.toArray _)) rfl HS ?_; clear HS; intro w8 b8 hb8 HS; simp only [Value.cells] at HS)
          | ((with_reducible (show wpList _ _ _ (Oper.mk (some 10) (Op.alloc _) _ _ _ _ :: _) _ _)); refine wpList_alloc_st (o := ⟨some 10, .alloc _, _, _, _, _⟩) rfl _ rfl zc_impl_Memory HS ?_; clear HS; intro w10 b10 hb10 HS)
          | ((with_reducible (show wpList _ _ _ (Oper.mk (some 11) (Op.alloc _) _ _ _ _ :: _) _ _)); refine wpList_alloc_st (o := ⟨some 11, .alloc _, _, _, _, _⟩) rfl _ rfl zc_impl_Ring HS ?_; clear HS; intro w11 b11 hb11 HS)
          | ((with_reducible (show wpList _ _ _ (Oper.mk (some 15) (Op.load _ _) _ _ _ _ :: _) _ _)); refine wpList_loadA_st (o := ⟨some 15, .load _ _, _, _, _, _⟩) rfl _ _ rfl rfl HS tk ag_impl_Ring lit rfl ?_))
    refine wp_region_plan_st HS (.early 0 (.early 1 (.early 2 (.early 3 (.early 4 (.early 5 (.early 7 (.fork 6 1 (.fork 8 1 (.pure 9 (.pure 10 (.pure 11 (.forced 12 1 (.forced 13 2 (.forced 14 2 .done)))))) 12 1 (.forced 8 2 (.forced 9 2 (.pure 10 (.pure 11 (.forced 13 2 (.forced 14 2 .done))))))) 12 1 (.forced 6 1 (.forced 8 2 (.forced 9 2 (.pure 10 (.pure 11 (.forced 13 2 (.forced 14 2 .done))))))))))))))) (by kernel_rfl) (by as_aux_lemma => kernel_rfl) ?_
    intro hne
    replace HS := HS.drew
    try go_simp
    repeat' (first
      | (with_reducible refine wpPlan_fork ?_ ?_)
      | (with_reducible refine wpPlan_forced ?_)
      | ((with_reducible (first | (show wpPlan _ _ _ _ (.early 0 _) _ _) | (show wpPlan _ _ _ _ (.early 2 _) _ _) | (show wpPlan _ _ _ _ (.early 4 _) _ _) | (show wpPlan _ _ _ _ (.early 7 _) _ _))); (first | (refine wpPlan_skipE rfl rfl ?_; (try go_simp)) | (refine wpPlan_early rfl rfl ?_; intro K hK; (first | go_big_quiet_op); (first | go_big_quiet_on | (refine ⟨_, fun _ => rfl, ?_⟩; go_big_quiet_on)))))
      | ((with_reducible ((show wpPlan _ _ _ _ (.early 1 _) _ _))); (first | (refine wpPlan_skipE rfl rfl ?_; (try go_simp)) | (refine wpPlan_early rfl rfl ?_; intro K hK; (first | ((refine quiet_loadA_st  _ _ rfl rfl tk ag_impl_Memory lit rfl ?_); (try go_simp)) | go_big_quiet_op); (first | go_big_quiet_on | (refine ⟨_, fun _ => rfl, ?_⟩; go_big_quiet_on)))))
      | ((with_reducible ((show wpPlan _ _ _ _ (.early 3 _) _ _))); (first | (refine wpPlan_skipE rfl rfl ?_; (try go_simp)) | (refine wpPlan_early rfl rfl ?_; intro K hK; (first | ((refine quiet_loadA_st  _ _ rfl rfl tk ag_impl_Ring lit rfl ?_); (try go_simp)) | go_big_quiet_op); (first | go_big_quiet_on | (refine ⟨_, fun _ => rfl, ?_⟩; go_big_quiet_on)))))
      | ((with_reducible ((show wpPlan _ _ _ _ (.early 5 _) _ _))); (first | (refine wpPlan_skipE rfl rfl ?_; (try go_simp)) | (refine wpPlan_early rfl rfl ?_; intro K hK; (first | ((refine quiet_loadS_st  _ _ rfl rfl tk sc_int rfx ?_); (try go_simp)) | go_big_quiet_op); (first | go_big_quiet_on | (refine ⟨_, fun _ => rfl, ?_⟩; go_big_quiet_on)))))
      | ((with_reducible ((show wpOne _ _ _ _ 6 1 _ _ _))); (first | (refine wpOne_skip rfl rfl ?_; (try go_simp)) | (refine wpOne_1 rfl rfl ?_; intro K hK; go_simp; (first | (go_at_call 136; (with_reducible refine (slotAddrS_any b s h t t _ HQ.out (by omega) (by omega)).mono ?_); rintro e w' ⟨rfl, hx⟩; replace HS := HS.grow hx; clear hx)); (try go_simp); refine hK _ _ ?_ ?_; (focus (exact stw HS)); clear hK K)))
      | ((with_reducible ((show wpOne _ _ _ _ 8 1 _ _ _))); (first | (refine wpOne_skip rfl rfl ?_; (try go_simp)) | (refine wpOne_1 rfl rfl ?_; intro K hK; go_simp; (first | (go_at_call 75; (with_reducible refine (dmaWriteS_any _ _ l ps d (rslot b s t) e _ (k1.ex HS.ex) (k2.ex HS.ex) hl hd.out HSI.out he.out HD.out).mono ?_); rintro e w' ⟨A7, c7, rfl, ho, hx⟩; replace HS := HS.own ho hx; clear ho hx)); (try go_simp); refine hK _ _ ?_ ?_; (focus (exact stw HS)); clear hK K)))
      | ((with_reducible ((show wpPlan _ _ _ _ (.pure _ _) _ _))); (first | (refine wpPlan_skipP rfl rfl ?_; (try go_simp)) | (refine wpPlan_pure rfl rfl ?_; intro K hK; go_big_quiet_op; (first | go_big_quiet_on | (refine ⟨_, fun _ => rfl, ?_⟩; go_big_quiet_on)))))
      | ((with_reducible ((show wpOne _ _ _ _ 12 1 _ _ _))); (first | (refine wpOne_skip rfl rfl ?_; (try go_simp)) | (refine wpOne_1 rfl rfl ?_; intro K hK; (first | (refine wp_alloc_st  _ rfl zc_impl_Memory HS ?_; clear HS; intro w13 b13 hb13 HS)); (try go_simp); refine hK _ _ ?_ ?_; (focus (exact stw HS)); clear hK K)))
      | ((with_reducible ((show wpOne _ _ _ _ 13 2 _ _ _))); (first | (refine wpOne_skip rfl rfl ?_; (try go_simp)) | (refine wpOne_2 rfl rfl ?_; intro K hK; (first | (refine wp_store_st  _ _ _ rfl rfl (v := .agg (List.toArray _)) rfl HS tk sz_impl_Memory vcs rfx rfx (by simp) ?_ rfl; clear HS; intro w3_13 hz3_13 HS; simp only [nicL, Value.cells, List.append_nil] at HS) | (refine wp_store_st  _ _ _ rfl rfl (v := .agg _) rfl HS tk sz_impl_Memory vcs rfx rfx (by simp) ?_ rfl; clear HS; intro w3_13 hz3_13 HS; simp only [nicL, Value.cells, List.append_nil] at HS)); (try go_simp); refine hK _ _ ?_; clear hK K)))
      | ((with_reducible (first | (show wpOne _ _ _ _ 14 2 _ _ _) | (show wpOne _ _ _ _ 9 2 _ _ _))); (first | (refine wpOne_skip rfl rfl ?_; (try go_simp)) | (refine wpOne_2 rfl rfl ?_; intro K hK; go_simp; refine hK _ _ ?_; clear hK K)))
      | ((with_reducible ((show wpOne _ _ _ _ 8 2 _ _ _))); (first | (refine wpOne_skip rfl rfl ?_; (try go_simp)) | (refine wpOne_2 rfl rfl ?_; intro K hK; go_simp; (first | (go_at_call 75; (with_reducible refine (dmaWriteS_any _ _ l ps d (rslot b s t) e _ (k1.ex HS.ex) (k2.ex HS.ex) hl hd.out HSI.out he.out HD.out).mono ?_); rintro e w' ⟨A7, c7, rfl, ho, hx⟩; replace HS := HS.own ho hx; clear ho hx)); (try go_simp); refine hK _ _ ?_; clear hK K)))
      | (with_reducible refine wpPlan_done ?_))
    all_goals
      go_wp2_with (first
            | ((with_reducible (show wpList _ _ _ (Oper.mk (some 44) (Op.load _ _) _ _ _ _ :: _) _ _)); refine wpList_loadS_st (o := ⟨some 44, .load _ _, _, _, _, _⟩) rfl _ _ rfl rfl HS tk sc_int rfx ?_)
            | ((with_reducible (show wpList _ _ _ (Oper.mk (some 47) (Op.load _ _) _ _ _ _ :: _) _ _)); refine wpList_loadS_st (o := ⟨some 47, .load _ _, _, _, _, _⟩) rfl _ _ rfl rfl HS tk sc_int rfx ?_)
            | ((with_reducible (show wpList _ _ _ (Oper.mk none (Op.store _ (.tmp 50) _) _ _ _ _ :: _) _ _)); refine wpList_store_st (o := ⟨none, .store _ (.tmp 50) _, _, _, _, _⟩) rfl _ _ _ rfl rfl (v := .int .i64 _) rfl HS tk sz_int vcs rfx rfx (by simp) ?_ rfl; clear HS; intro w6_8 hz6_8 HS; simp only [nicL, Value.cells, List.append_nil] at HS))
      refine wp_region_plan_st (HS.arr (show Arr _ [rowA b13 _ _, rowA b8 _ _] from ary)) (.early 0 (.early 1 (.forced 2 1 (.forced 3 2 (.forced 4 2 .done))))) (by kernel_rfl) (by as_aux_lemma => kernel_rfl) ?_
      intro hne
      replace HS := HS.drew
      try go_simp
      repeat' (first
        | (with_reducible refine wpPlan_forced ?_)
        | ((with_reducible ((show wpPlan _ _ _ _ (.early 0 _) _ _))); (first | (refine wpPlan_skipE rfl rfl ?_; (try go_simp)) | (refine wpPlan_early rfl rfl ?_; intro K hK; (first | ((refine quiet_loadA_st  _ _ rfl rfl tk ag_impl_Memory lit rfl ?_); (try go_simp)) | go_big_quiet_op); (first | go_big_quiet_on | (refine ⟨_, fun _ => rfl, ?_⟩; go_big_quiet_on)))))
        | ((with_reducible ((show wpPlan _ _ _ _ (.early 1 _) _ _))); (first | (refine wpPlan_skipE rfl rfl ?_; (try go_simp)) | (refine wpPlan_early rfl rfl ?_; intro K hK; (first | ((refine quiet_loadA_st  _ _ rfl rfl tk ag_impl_Ring lit rfl ?_); (try go_simp)) | go_big_quiet_op); (first | go_big_quiet_on | (refine ⟨_, fun _ => rfl, ?_⟩; go_big_quiet_on)))))
        | ((with_reducible ((show wpOne _ _ _ _ 2 1 _ _ _))); (first | (refine wpOne_skip rfl rfl ?_; (try go_simp)) | (refine wpOne_1 rfl rfl ?_; intro K hK; (first | (refine wp_store_st  _ _ _ rfl rfl (v := .agg (List.toArray _)) rfl HS tk sz_impl_Memory vcs rfx rfx (by simp) ?_ rfl; clear HS; intro w7_2 hz7_2 HS; simp only [nicL, Value.cells, List.append_nil] at HS) | (refine wp_store_st  _ _ _ rfl rfl (v := .agg _) rfl HS tk sz_impl_Memory vcs rfx rfx (by simp) ?_ rfl; clear HS; intro w7_2 hz7_2 HS; simp only [nicL, Value.cells, List.append_nil] at HS)); (try go_simp); refine hK _ _ ?_ ?_; (focus (exact stw HS)); clear hK K)))
        | ((with_reducible ((show wpOne _ _ _ _ 3 2 _ _ _))); (first | (refine wpOne_skip rfl rfl ?_; (try go_simp)) | (refine wpOne_2 rfl rfl ?_; intro K hK; (first | (refine wp_store_st  _ _ _ rfl rfl (v := .agg (List.toArray _)) rfl HS tk sz_impl_Ring vcs rfx rfx (by simp) ?_ rfl; clear HS; intro w7_3 hz7_3 HS; simp only [nicL, Value.cells, List.append_nil] at HS) | (refine wp_store_st  _ _ _ rfl rfl (v := .agg _) rfl HS tk sz_impl_Ring vcs rfx rfx (by simp) ?_ rfl; clear HS; intro w7_3 hz7_3 HS; simp only [nicL, Value.cells, List.append_nil] at HS)); (try go_simp); refine hK _ _ ?_; clear hK K)))
        | ((with_reducible ((show wpOne _ _ _ _ 4 2 _ _ _))); (first | (refine wpOne_skip rfl rfl ?_; (try go_simp)) | (refine wpOne_2 rfl rfl ?_; intro K hK; go_simp; refine hK _ _ ?_; clear hK K)))
        | (with_reducible refine wpPlan_done ?_))
      all_goals
        go_wp2
        rw [HN.out]
        refine bodyPost_rets rfx (RVs.cell rfx HS tk ag_impl_Memory rfx (RVs.cell rfx HS tk ag_impl_Ring rfx (RVs.tmp rfx RVs.nil))) (by simp) rfx ?_
        exact retRing HS tk

set_option maxRecDepth 100000 in
set_option maxHeartbeats 4000000 in
theorem ringTakeS_any (v1 v2 : Value) (l : List Mp) (ps : Pg) (d b s h t : Int) (w : World) (k1 : Holds w l [v1]) (k2 : Holds w ps [v2]) (hd : i64ok d) {x : ByteArray} {h2 : Int} {ok : Bool} (hr : (x, h2, ok) = rtakeF l ps d b s h t) :
    Calls Try.prog 85 #[v1, .agg #[v2], .int .i64 d, .agg #[.int .i64 b, .int .i64 s, .int .i64 h, .int .i64 t]] w fun e w' => e = .returned (.tuple #[.string x, .agg #[.int .i64 b, .int .i64 s, .int .i64 h2, .int .i64 t], .bool ok]) ∧ Ex w w' := by
  obtain ⟨AA, cap, rfl, z1, z2⟩ := k1.fl
  unfold maxLen at z2
  obtain ⟨BB, cap2, rfl, y1, y2⟩ := k2.fl
  unfold maxLen at y2
  replace hd := hid hd
  unfold rtakeF at hr
  cases hq : ringOkB b s h t
  case false =>
    have HQ := hid hq
    rw [hq, if_neg (by decide)] at hr
    simp only [Prod.mk.injEq] at hr
    obtain ⟨rfl, e2, rfl⟩ := hr
    replace e2 := e2.symm
    subst e2
    clear hq
    have HS := St.start w
    go_enter Try.func85, Try.ntmps85
    go_wp2_with (first
          | (go_at_call 83; (with_reducible refine (ringOkS_any b s h t _).mono ?_); rintro e w' ⟨rfl, hx⟩; rw [HQ.out]; replace HS := HS.grow hx; clear hx)
          | ((with_reducible (show wpList _ _ _ (Oper.mk (some 5) (Op.box _ _) _ _ _ _ :: _) _ _)); refine wpList_box_st (o := ⟨some 5, .box _ _, _, _, _, _⟩) rfl _ _ rfl (v := .agg (List.toArray _)) rfl HS ?_; clear HS; intro w5 b5 hb5 HS; simp only [Value.cells] at HS)
          | ((with_reducible (show wpList _ _ _ (Oper.mk (some 7) (Op.box _ _) _ _ _ _ :: _) _ _)); refine wpList_box_st (o := ⟨some 7, .box _ _, _, _, _, _⟩) rfl _ _ rfl (v := .agg (List.toArray _)) rfl HS ?_; clear HS; intro w7 b7 hb7 HS; simp only [Value.cells] at HS)
          | ((with_reducible (show wpList _ _ _ (Oper.mk (some 9) (Op.alloc _) _ _ _ _ :: _) _ _)); refine wpList_alloc_st (o := ⟨some 9, .alloc _, _, _, _, _⟩) rfl _ rfl zc_impl_Ring HS ?_; clear HS; intro w9 b9 hb9 HS)
          | ((with_reducible (show wpList _ _ _ (Oper.mk (some 13) (Op.load _ _) _ _ _ _ :: _) _ _)); refine wpList_loadA_st (o := ⟨some 13, .load _ _, _, _, _, _⟩) rfl _ _ rfl rfl HS tk ag_impl_Ring lit rfl ?_))
    refine wp_region_plan_st (HS.arr (show Arr _ [rowA b7 _ _] from ary)) (.early 0 (.forced 1 1 (.forced 2 2 (.forced 3 2 .done)))) (by kernel_rfl) (by as_aux_lemma => kernel_rfl) ?_
    intro hne
    replace HS := HS.drew
    try go_simp
    repeat' (first
      | (with_reducible refine wpPlan_forced ?_)
      | ((with_reducible ((show wpPlan _ _ _ _ (.early 0 _) _ _))); (first | (refine wpPlan_skipE rfl rfl ?_; (try go_simp)) | (refine wpPlan_early rfl rfl ?_; intro K hK; (first | ((refine quiet_loadA_st  _ _ rfl rfl tk ag_impl_Ring lit rfl ?_); (try go_simp)) | go_big_quiet_op); (first | go_big_quiet_on | (refine ⟨_, fun _ => rfl, ?_⟩; go_big_quiet_on)))))
      | ((with_reducible ((show wpOne _ _ _ _ 1 1 _ _ _))); (first | (refine wpOne_skip rfl rfl ?_; (try go_simp)) | (refine wpOne_1 rfl rfl ?_; intro K hK; go_simp; refine hK _ _ ?_ ?_; (focus (exact stw HS)); clear hK K)))
      | ((with_reducible ((show wpOne _ _ _ _ 2 2 _ _ _))); (first | (refine wpOne_skip rfl rfl ?_; (try go_simp)) | (refine wpOne_2 rfl rfl ?_; intro K hK; (first | (refine wp_store_st  _ _ _ rfl rfl (v := .agg (List.toArray _)) rfl HS tk sz_impl_Ring vcs rfx rfx (by simp) ?_ rfl; clear HS; intro w2_2 hz2_2 HS; simp only [nicL, Value.cells, List.append_nil] at HS) | (refine wp_store_st  _ _ _ rfl rfl (v := .agg _) rfl HS tk sz_impl_Ring vcs rfx rfx (by simp) ?_ rfl; clear HS; intro w2_2 hz2_2 HS; simp only [nicL, Value.cells, List.append_nil] at HS)); (try go_simp); refine hK _ _ ?_; clear hK K)))
      | ((with_reducible ((show wpOne _ _ _ _ 3 2 _ _ _))); (first | (refine wpOne_skip rfl rfl ?_; (try go_simp)) | (refine wpOne_2 rfl rfl ?_; intro K hK; go_simp; refine hK _ _ ?_; clear hK K)))
      | (with_reducible refine wpPlan_done ?_))
    all_goals
      go_wp2
      refine bodyPost_rets rfx (RVs.tmp rfx (RVs.cell rfx HS tk ag_impl_Ring rfx (RVs.tmp rfx RVs.nil))) (by simp) rfx ?_
      exact ⟨rfl, HS.ex⟩
  case true =>
  have HQ := hid hq
  rw [hq, if_pos rfl] at hr
  obtain ⟨sb0, sb1⟩ := rslot_bd hq h
  have HSI : Hid (i64ok (rslot b s h)) := hid (by unfold i64ok; omega)
  obtain ⟨hs, b0, b1, s0, s1, h0, h1, t0, t1, u1, u0⟩ := ringOk_facts hq
  have HZ := hid hs
  obtain ⟨uv, huv⟩ : ∃ v, (t - h) % (2 * s) = v := ⟨_, rfl⟩
  have HU := hid huv
  unfold usedF at hr
  rw [huv] at hr u0 u1
  clear hs hq sb0 sb1 huv
  by_cases hz : uv = 0
  case pos =>
    rw [if_pos hz] at hr
    simp only [Prod.mk.injEq] at hr
    obtain ⟨rfl, e2, rfl⟩ := hr
    replace e2 := e2.symm
    subst e2
    have z3 : (uv == 0) = true := by simp [hz]
    clear hz
    have HS := St.start w
    go_enter Try.func85, Try.ntmps85
    go_wp2_with (first
          | (go_at_call 83; (with_reducible refine (ringOkS_any b s h t _).mono ?_); rintro e w' ⟨rfl, hx⟩; rw [HQ.out]; replace HS := HS.grow hx; clear hx)
          | (go_at_call 84; (with_reducible refine (ringUsedS_any b s h t HZ.out (by omega) (by omega) (by omega) (by omega) _).mono ?_); rintro e w' ⟨rfl, hx⟩; rw [HU.out]; replace HS := HS.grow hx; clear hx)
          | ((with_reducible (show wpList _ _ _ (Oper.mk (some 5) (Op.box _ _) _ _ _ _ :: _) _ _)); refine wpList_box_st (o := ⟨some 5, .box _ _, _, _, _, _⟩) rfl _ _ rfl (v := .agg (List.toArray _)) rfl HS ?_; clear HS; intro w5 b5 hb5 HS; simp only [Value.cells] at HS)
          | ((with_reducible (show wpList _ _ _ (Oper.mk (some 7) (Op.box _ _) _ _ _ _ :: _) _ _)); refine wpList_box_st (o := ⟨some 7, .box _ _, _, _, _, _⟩) rfl _ _ rfl (v := .agg (List.toArray _)) rfl HS ?_; clear HS; intro w7 b7 hb7 HS; simp only [Value.cells] at HS)
          | ((with_reducible (show wpList _ _ _ (Oper.mk (some 9) (Op.alloc _) _ _ _ _ :: _) _ _)); refine wpList_alloc_st (o := ⟨some 9, .alloc _, _, _, _, _⟩) rfl _ rfl zc_impl_Ring HS ?_; clear HS; intro w9 b9 hb9 HS)
          | ((with_reducible (show wpList _ _ _ (Oper.mk (some 13) (Op.load _ _) _ _ _ _ :: _) _ _)); refine wpList_loadA_st (o := ⟨some 13, .load _ _, _, _, _, _⟩) rfl _ _ rfl rfl HS tk ag_impl_Ring lit rfl ?_)
          | ((with_reducible (show wpList _ _ _ (Oper.mk (some 17) (Op.load _ _) _ _ _ _ :: _) _ _)); refine wpList_loadA_st (o := ⟨some 17, .load _ _, _, _, _, _⟩) rfl _ _ rfl rfl HS tk ag_impl_Ring lit rfl ?_))
    refine wp_region_plan_st (HS.arr (show Arr _ [rowA b7 _ _] from ary)) (.early 0 (.forced 1 1 (.forced 2 2 (.forced 3 2 .done)))) (by kernel_rfl) (by as_aux_lemma => kernel_rfl) ?_
    intro hne
    replace HS := HS.drew
    try go_simp
    repeat' (first
      | (with_reducible refine wpPlan_forced ?_)
      | ((with_reducible ((show wpPlan _ _ _ _ (.early 0 _) _ _))); (first | (refine wpPlan_skipE rfl rfl ?_; (try go_simp)) | (refine wpPlan_early rfl rfl ?_; intro K hK; (first | ((refine quiet_loadA_st  _ _ rfl rfl tk ag_impl_Ring lit rfl ?_); (try go_simp)) | go_big_quiet_op); (first | go_big_quiet_on | (refine ⟨_, fun _ => rfl, ?_⟩; go_big_quiet_on)))))
      | ((with_reducible ((show wpOne _ _ _ _ 1 1 _ _ _))); (first | (refine wpOne_skip rfl rfl ?_; (try go_simp)) | (refine wpOne_1 rfl rfl ?_; intro K hK; go_simp; refine hK _ _ ?_ ?_; (focus (exact stw HS)); clear hK K)))
      | ((with_reducible ((show wpOne _ _ _ _ 2 2 _ _ _))); (first | (refine wpOne_skip rfl rfl ?_; (try go_simp)) | (refine wpOne_2 rfl rfl ?_; intro K hK; (first | (refine wp_store_st  _ _ _ rfl rfl (v := .agg (List.toArray _)) rfl HS tk sz_impl_Ring vcs rfx rfx (by simp) ?_ rfl; clear HS; intro w2_2 hz2_2 HS; simp only [nicL, Value.cells, List.append_nil] at HS) | (refine wp_store_st  _ _ _ rfl rfl (v := .agg _) rfl HS tk sz_impl_Ring vcs rfx rfx (by simp) ?_ rfl; clear HS; intro w2_2 hz2_2 HS; simp only [nicL, Value.cells, List.append_nil] at HS)); (try go_simp); refine hK _ _ ?_; clear hK K)))
      | ((with_reducible ((show wpOne _ _ _ _ 3 2 _ _ _))); (first | (refine wpOne_skip rfl rfl ?_; (try go_simp)) | (refine wpOne_2 rfl rfl ?_; intro K hK; go_simp; refine hK _ _ ?_; clear hK K)))
      | (with_reducible refine wpPlan_done ?_))
    all_goals
      go_wp2
      refine bodyPost_rets rfx (RVs.tmp rfx (RVs.cell rfx HS tk ag_impl_Ring rfx (RVs.tmp rfx RVs.nil))) (by simp) rfx ?_
      exact ⟨rfl, HS.ex⟩
  case neg =>
  rw [if_neg hz] at hr
  have z3 : (uv == 0) = false := by simp [hz]
  clear hz
  obtain ⟨⟨x', k⟩, hD⟩ : ∃ r, r = dmaRF l ps d (rslot b s h) 16 := ⟨_, rfl⟩
  rw [← hD] at hr
  have HD := hid hD
  clear hD
  cases k
  case false =>
    simp only [Prod.mk.injEq] at hr
    obtain ⟨rfl, e2, rfl⟩ := hr
    replace e2 := e2.symm
    subst e2
    have HS := St.start w
    go_enter Try.func85, Try.ntmps85
    go_wp2_with (first
          | (go_at_call 83; (with_reducible refine (ringOkS_any b s h t _).mono ?_); rintro e w' ⟨rfl, hx⟩; rw [HQ.out]; replace HS := HS.grow hx; clear hx)
          | (go_at_call 84; (with_reducible refine (ringUsedS_any b s h t HZ.out (by omega) (by omega) (by omega) (by omega) _).mono ?_); rintro e w' ⟨rfl, hx⟩; rw [HU.out]; replace HS := HS.grow hx; clear hx)
          | ((with_reducible (show wpList _ _ _ (Oper.mk (some 5) (Op.box _ _) _ _ _ _ :: _) _ _)); refine wpList_box_st (o := ⟨some 5, .box _ _, _, _, _, _⟩) rfl _ _ rfl (v := .agg (List.toArray _)) rfl HS ?_; clear HS; intro w5 b5 hb5 HS; simp only [Value.cells] at HS)
          | ((with_reducible (show wpList _ _ _ (Oper.mk (some 7) (Op.box _ _) _ _ _ _ :: _) _ _)); refine wpList_box_st (o := ⟨some 7, .box _ _, _, _, _, _⟩) rfl _ _ rfl (v := .agg (List.toArray _)) rfl HS ?_; clear HS; intro w7 b7 hb7 HS; simp only [Value.cells] at HS)
          | ((with_reducible (show wpList _ _ _ (Oper.mk (some 9) (Op.alloc _) _ _ _ _ :: _) _ _)); refine wpList_alloc_st (o := ⟨some 9, .alloc _, _, _, _, _⟩) rfl _ rfl zc_impl_Ring HS ?_; clear HS; intro w9 b9 hb9 HS)
          | ((with_reducible (show wpList _ _ _ (Oper.mk (some 13) (Op.load _ _) _ _ _ _ :: _) _ _)); refine wpList_loadA_st (o := ⟨some 13, .load _ _, _, _, _, _⟩) rfl _ _ rfl rfl HS tk ag_impl_Ring lit rfl ?_)
          | ((with_reducible (show wpList _ _ _ (Oper.mk (some 17) (Op.load _ _) _ _ _ _ :: _) _ _)); refine wpList_loadA_st (o := ⟨some 17, .load _ _, _, _, _, _⟩) rfl _ _ rfl rfl HS tk ag_impl_Ring lit rfl ?_))
    refine wp_region_plan_st HS (.early 0 (.early 1 (.early 2 (.early 3 (.forced 4 1 (.forced 5 1 (.forced 6 1 (.forced 7 2 (.forced 8 2 (.pure 9 (.pure 10 (.forced 11 2 (.forced 12 2 .done))))))))))))) (by kernel_rfl) (by as_aux_lemma => kernel_rfl) ?_
    intro hne
    replace HS := HS.drew
    try go_simp
    repeat' (first
      | (with_reducible refine wpPlan_forced ?_)
      | ((with_reducible (first | (show wpPlan _ _ _ _ (.early 0 _) _ _) | (show wpPlan _ _ _ _ (.early 2 _) _ _))); (first | (refine wpPlan_skipE rfl rfl ?_; (try go_simp)) | (refine wpPlan_early rfl rfl ?_; intro K hK; (first | go_big_quiet_op); (first | go_big_quiet_on | (refine ⟨_, fun _ => rfl, ?_⟩; go_big_quiet_on)))))
      | ((with_reducible ((show wpPlan _ _ _ _ (.early 1 _) _ _))); (first | (refine wpPlan_skipE rfl rfl ?_; (try go_simp)) | (refine wpPlan_early rfl rfl ?_; intro K hK; (first | ((refine quiet_loadA_st  _ _ rfl rfl tk ag_impl_Memory lit rfl ?_); (try go_simp)) | go_big_quiet_op); (first | go_big_quiet_on | (refine ⟨_, fun _ => rfl, ?_⟩; go_big_quiet_on)))))
      | ((with_reducible ((show wpPlan _ _ _ _ (.early 3 _) _ _))); (first | (refine wpPlan_skipE rfl rfl ?_; (try go_simp)) | (refine wpPlan_early rfl rfl ?_; intro K hK; (first | ((refine quiet_loadA_st  _ _ rfl rfl tk ag_impl_Ring lit rfl ?_); (try go_simp)) | go_big_quiet_op); (first | go_big_quiet_on | (refine ⟨_, fun _ => rfl, ?_⟩; go_big_quiet_on)))))
      | ((with_reducible ((show wpOne _ _ _ _ 4 1 _ _ _))); (first | (refine wpOne_skip rfl rfl ?_; (try go_simp)) | (refine wpOne_1 rfl rfl ?_; intro K hK; go_simp; refine hK _ _ ?_ ?_; (focus (exact stw HS)); clear hK K)))
      | ((with_reducible ((show wpOne _ _ _ _ 5 1 _ _ _))); (first | (refine wpOne_skip rfl rfl ?_; (try go_simp)) | (refine wpOne_1 rfl rfl ?_; intro K hK; (first | (refine wp_loadS_st  _ _ rfl rfl HS tk sc_int rfx ?_)); (try go_simp); refine hK _ _ ?_ ?_; (focus (exact stw HS)); clear hK K)))
      | ((with_reducible ((show wpOne _ _ _ _ 6 1 _ _ _))); (first | (refine wpOne_skip rfl rfl ?_; (try go_simp)) | (refine wpOne_1 rfl rfl ?_; intro K hK; go_simp; (first | (go_at_call 136; (with_reducible refine (slotAddrS_any b s h t h _ HQ.out (by omega) (by omega)).mono ?_); rintro e w' ⟨rfl, hx⟩; replace HS := HS.grow hx; clear hx)); (try go_simp); refine hK _ _ ?_ ?_; (focus (exact stw HS)); clear hK K)))
      | ((with_reducible ((show wpOne _ _ _ _ 7 2 _ _ _))); (first | (refine wpOne_skip rfl rfl ?_; (try go_simp)) | (refine wpOne_2 rfl rfl ?_; intro K hK; go_simp; (first | (go_at_call 66; (with_reducible refine (dmaReadS_any _ _ l ps d (rslot b s h) 16 _ (k1.ex HS.ex) (k2.ex HS.ex) hd.out HSI.out (by unfold i64ok; omega) HD.out).mono ?_); rintro e w' ⟨rfl, hx⟩; replace HS := HS.grow hx; clear hx)); (try go_simp); refine hK _ _ ?_; clear hK K)))
      | ((with_reducible (first | (show wpOne _ _ _ _ 8 2 _ _ _) | (show wpOne _ _ _ _ 11 2 _ _ _) | (show wpOne _ _ _ _ 12 2 _ _ _))); (first | (refine wpOne_skip rfl rfl ?_; (try go_simp)) | (refine wpOne_2 rfl rfl ?_; intro K hK; go_simp; refine hK _ _ ?_; clear hK K)))
      | ((with_reducible ((show wpPlan _ _ _ _ (.pure _ _) _ _))); (first | (refine wpPlan_skipP rfl rfl ?_; (try go_simp)) | (refine wpPlan_pure rfl rfl ?_; intro K hK; go_big_quiet_op; (first | go_big_quiet_on | (refine ⟨_, fun _ => rfl, ?_⟩; go_big_quiet_on)))))
      | (with_reducible refine wpPlan_done ?_))
    all_goals
      go_wp2
      refine wp_region_plan_st (HS.arr (show Arr _ [rowA b7 _ _] from ary)) (.early 0 (.forced 1 1 (.forced 2 2 (.forced 3 2 .done)))) (by kernel_rfl) (by as_aux_lemma => kernel_rfl) ?_
      intro hne
      replace HS := HS.drew
      try go_simp
      repeat' (first
        | (with_reducible refine wpPlan_forced ?_)
        | ((with_reducible ((show wpPlan _ _ _ _ (.early 0 _) _ _))); (first | (refine wpPlan_skipE rfl rfl ?_; (try go_simp)) | (refine wpPlan_early rfl rfl ?_; intro K hK; (first | ((refine quiet_loadA_st  _ _ rfl rfl tk ag_impl_Ring lit rfl ?_); (try go_simp)) | go_big_quiet_op); (first | go_big_quiet_on | (refine ⟨_, fun _ => rfl, ?_⟩; go_big_quiet_on)))))
        | ((with_reducible ((show wpOne _ _ _ _ 1 1 _ _ _))); (first | (refine wpOne_skip rfl rfl ?_; (try go_simp)) | (refine wpOne_1 rfl rfl ?_; intro K hK; go_simp; refine hK _ _ ?_ ?_; (focus (exact stw HS)); clear hK K)))
        | ((with_reducible ((show wpOne _ _ _ _ 2 2 _ _ _))); (first | (refine wpOne_skip rfl rfl ?_; (try go_simp)) | (refine wpOne_2 rfl rfl ?_; intro K hK; (first | (refine wp_store_st  _ _ _ rfl rfl (v := .agg (List.toArray _)) rfl HS tk sz_impl_Ring vcs rfx rfx (by simp) ?_ rfl; clear HS; intro w5_2 hz5_2 HS; simp only [nicL, Value.cells, List.append_nil] at HS) | (refine wp_store_st  _ _ _ rfl rfl (v := .agg _) rfl HS tk sz_impl_Ring vcs rfx rfx (by simp) ?_ rfl; clear HS; intro w5_2 hz5_2 HS; simp only [nicL, Value.cells, List.append_nil] at HS)); (try go_simp); refine hK _ _ ?_; clear hK K)))
        | ((with_reducible ((show wpOne _ _ _ _ 3 2 _ _ _))); (first | (refine wpOne_skip rfl rfl ?_; (try go_simp)) | (refine wpOne_2 rfl rfl ?_; intro K hK; go_simp; refine hK _ _ ?_; clear hK K)))
        | (with_reducible refine wpPlan_done ?_))
      all_goals
        go_wp2
        refine bodyPost_rets rfx (RVs.tmp rfx (RVs.cell rfx HS tk ag_impl_Ring rfx (RVs.tmp rfx RVs.nil))) (by simp) rfx ?_
        exact ⟨rfl, HS.ex⟩
  case true =>
    simp only [Prod.mk.injEq] at hr
    obtain ⟨rfl, rfl, rfl⟩ := hr
    have q3 : (h + 1).tmod (2 * s) = (h + 1) % (2 * s) := Int.tmod_eq_emod_of_nonneg (by omega)
    have q4 : 2 * s ≠ 0 := by omega
    have q5 : (2 * s == 0) = false := by simp [q4]
    have HN : Hid (rnext s h = (h + 1) % (2 * s)) := hid rfl
    have HS := St.start w
    go_enter Try.func85, Try.ntmps85
    go_wp2_with (first
          | (go_at_call 83; (with_reducible refine (ringOkS_any b s h t _).mono ?_); rintro e w' ⟨rfl, hx⟩; rw [HQ.out]; replace HS := HS.grow hx; clear hx)
          | (go_at_call 84; (with_reducible refine (ringUsedS_any b s h t HZ.out (by omega) (by omega) (by omega) (by omega) _).mono ?_); rintro e w' ⟨rfl, hx⟩; rw [HU.out]; replace HS := HS.grow hx; clear hx)
          | ((with_reducible (show wpList _ _ _ (Oper.mk (some 5) (Op.box _ _) _ _ _ _ :: _) _ _)); refine wpList_box_st (o := ⟨some 5, .box _ _, _, _, _, _⟩) rfl _ _ rfl (v := .agg (List.toArray _)) rfl HS ?_; clear HS; intro w5 b5 hb5 HS; simp only [Value.cells] at HS)
          | ((with_reducible (show wpList _ _ _ (Oper.mk (some 7) (Op.box _ _) _ _ _ _ :: _) _ _)); refine wpList_box_st (o := ⟨some 7, .box _ _, _, _, _, _⟩) rfl _ _ rfl (v := .agg (List.toArray _)) rfl HS ?_; clear HS; intro w7 b7 hb7 HS; simp only [Value.cells] at HS)
          | ((with_reducible (show wpList _ _ _ (Oper.mk (some 9) (Op.alloc _) _ _ _ _ :: _) _ _)); refine wpList_alloc_st (o := ⟨some 9, .alloc _, _, _, _, _⟩) rfl _ rfl zc_impl_Ring HS ?_; clear HS; intro w9 b9 hb9 HS)
          | ((with_reducible (show wpList _ _ _ (Oper.mk (some 13) (Op.load _ _) _ _ _ _ :: _) _ _)); refine wpList_loadA_st (o := ⟨some 13, .load _ _, _, _, _, _⟩) rfl _ _ rfl rfl HS tk ag_impl_Ring lit rfl ?_)
          | ((with_reducible (show wpList _ _ _ (Oper.mk (some 17) (Op.load _ _) _ _ _ _ :: _) _ _)); refine wpList_loadA_st (o := ⟨some 17, .load _ _, _, _, _, _⟩) rfl _ _ rfl rfl HS tk ag_impl_Ring lit rfl ?_))
    refine wp_region_plan_st HS (.early 0 (.early 1 (.early 2 (.early 3 (.forced 4 1 (.forced 5 1 (.forced 6 1 (.forced 7 2 (.forced 8 2 (.pure 9 (.pure 10 (.forced 11 2 (.forced 12 2 .done))))))))))))) (by kernel_rfl) (by as_aux_lemma => kernel_rfl) ?_
    intro hne
    replace HS := HS.drew
    try go_simp
    repeat' (first
      | (with_reducible refine wpPlan_forced ?_)
      | ((with_reducible (first | (show wpPlan _ _ _ _ (.early 0 _) _ _) | (show wpPlan _ _ _ _ (.early 2 _) _ _))); (first | (refine wpPlan_skipE rfl rfl ?_; (try go_simp)) | (refine wpPlan_early rfl rfl ?_; intro K hK; (first | go_big_quiet_op); (first | go_big_quiet_on | (refine ⟨_, fun _ => rfl, ?_⟩; go_big_quiet_on)))))
      | ((with_reducible ((show wpPlan _ _ _ _ (.early 1 _) _ _))); (first | (refine wpPlan_skipE rfl rfl ?_; (try go_simp)) | (refine wpPlan_early rfl rfl ?_; intro K hK; (first | ((refine quiet_loadA_st  _ _ rfl rfl tk ag_impl_Memory lit rfl ?_); (try go_simp)) | go_big_quiet_op); (first | go_big_quiet_on | (refine ⟨_, fun _ => rfl, ?_⟩; go_big_quiet_on)))))
      | ((with_reducible ((show wpPlan _ _ _ _ (.early 3 _) _ _))); (first | (refine wpPlan_skipE rfl rfl ?_; (try go_simp)) | (refine wpPlan_early rfl rfl ?_; intro K hK; (first | ((refine quiet_loadA_st  _ _ rfl rfl tk ag_impl_Ring lit rfl ?_); (try go_simp)) | go_big_quiet_op); (first | go_big_quiet_on | (refine ⟨_, fun _ => rfl, ?_⟩; go_big_quiet_on)))))
      | ((with_reducible ((show wpOne _ _ _ _ 4 1 _ _ _))); (first | (refine wpOne_skip rfl rfl ?_; (try go_simp)) | (refine wpOne_1 rfl rfl ?_; intro K hK; go_simp; refine hK _ _ ?_ ?_; (focus (exact stw HS)); clear hK K)))
      | ((with_reducible ((show wpOne _ _ _ _ 5 1 _ _ _))); (first | (refine wpOne_skip rfl rfl ?_; (try go_simp)) | (refine wpOne_1 rfl rfl ?_; intro K hK; (first | (refine wp_loadS_st  _ _ rfl rfl HS tk sc_int rfx ?_)); (try go_simp); refine hK _ _ ?_ ?_; (focus (exact stw HS)); clear hK K)))
      | ((with_reducible ((show wpOne _ _ _ _ 6 1 _ _ _))); (first | (refine wpOne_skip rfl rfl ?_; (try go_simp)) | (refine wpOne_1 rfl rfl ?_; intro K hK; go_simp; (first | (go_at_call 136; (with_reducible refine (slotAddrS_any b s h t h _ HQ.out (by omega) (by omega)).mono ?_); rintro e w' ⟨rfl, hx⟩; replace HS := HS.grow hx; clear hx)); (try go_simp); refine hK _ _ ?_ ?_; (focus (exact stw HS)); clear hK K)))
      | ((with_reducible ((show wpOne _ _ _ _ 7 2 _ _ _))); (first | (refine wpOne_skip rfl rfl ?_; (try go_simp)) | (refine wpOne_2 rfl rfl ?_; intro K hK; go_simp; (first | (go_at_call 66; (with_reducible refine (dmaReadS_any _ _ l ps d (rslot b s h) 16 _ (k1.ex HS.ex) (k2.ex HS.ex) hd.out HSI.out (by unfold i64ok; omega) HD.out).mono ?_); rintro e w' ⟨rfl, hx⟩; replace HS := HS.grow hx; clear hx)); (try go_simp); refine hK _ _ ?_; clear hK K)))
      | ((with_reducible (first | (show wpOne _ _ _ _ 8 2 _ _ _) | (show wpOne _ _ _ _ 11 2 _ _ _) | (show wpOne _ _ _ _ 12 2 _ _ _))); (first | (refine wpOne_skip rfl rfl ?_; (try go_simp)) | (refine wpOne_2 rfl rfl ?_; intro K hK; go_simp; refine hK _ _ ?_; clear hK K)))
      | ((with_reducible ((show wpPlan _ _ _ _ (.pure _ _) _ _))); (first | (refine wpPlan_skipP rfl rfl ?_; (try go_simp)) | (refine wpPlan_pure rfl rfl ?_; intro K hK; go_big_quiet_op; (first | go_big_quiet_on | (refine ⟨_, fun _ => rfl, ?_⟩; go_big_quiet_on)))))
      | (with_reducible refine wpPlan_done ?_))
    all_goals
      go_wp2_with (first
            | ((with_reducible (show wpList _ _ _ (Oper.mk (some 37) (Op.load _ _) _ _ _ _ :: _) _ _)); refine wpList_loadS_st (o := ⟨some 37, .load _ _, _, _, _, _⟩) rfl _ _ rfl rfl HS tk sc_int rfx ?_)
            | ((with_reducible (show wpList _ _ _ (Oper.mk (some 40) (Op.load _ _) _ _ _ _ :: _) _ _)); refine wpList_loadS_st (o := ⟨some 40, .load _ _, _, _, _, _⟩) rfl _ _ rfl rfl HS tk sc_int rfx ?_)
            | ((with_reducible (show wpList _ _ _ (Oper.mk none (Op.store _ (.tmp 43) _) _ _ _ _ :: _) _ _)); refine wpList_store_st (o := ⟨none, .store _ (.tmp 43) _, _, _, _, _⟩) rfl _ _ _ rfl rfl (v := .int .i64 _) rfl HS tk sz_int vcs rfx rfx (by simp) ?_ rfl; clear HS; intro w6_8 hz6_8 HS; simp only [nicL, Value.cells, List.append_nil] at HS))
      refine wp_region_plan_st (HS.arr (show Arr _ [rowA b7 _ _] from ary)) (.early 0 (.early 1 (.forced 2 1 (.forced 3 2 (.forced 4 2 .done))))) (by kernel_rfl) (by as_aux_lemma => kernel_rfl) ?_
      intro hne
      replace HS := HS.drew
      try go_simp
      repeat' (first
        | (with_reducible refine wpPlan_forced ?_)
        | ((with_reducible ((show wpPlan _ _ _ _ (.early 0 _) _ _))); (first | (refine wpPlan_skipE rfl rfl ?_; (try go_simp)) | (refine wpPlan_early rfl rfl ?_; intro K hK; (first | go_big_quiet_op); (first | go_big_quiet_on | (refine ⟨_, fun _ => rfl, ?_⟩; go_big_quiet_on)))))
        | ((with_reducible ((show wpPlan _ _ _ _ (.early 1 _) _ _))); (first | (refine wpPlan_skipE rfl rfl ?_; (try go_simp)) | (refine wpPlan_early rfl rfl ?_; intro K hK; (first | ((refine quiet_loadA_st  _ _ rfl rfl tk ag_impl_Ring lit rfl ?_); (try go_simp)) | go_big_quiet_op); (first | go_big_quiet_on | (refine ⟨_, fun _ => rfl, ?_⟩; go_big_quiet_on)))))
        | ((with_reducible ((show wpOne _ _ _ _ 2 1 _ _ _))); (first | (refine wpOne_skip rfl rfl ?_; (try go_simp)) | (refine wpOne_1 rfl rfl ?_; intro K hK; go_simp; refine hK _ _ ?_ ?_; (focus (exact stw HS)); clear hK K)))
        | ((with_reducible ((show wpOne _ _ _ _ 3 2 _ _ _))); (first | (refine wpOne_skip rfl rfl ?_; (try go_simp)) | (refine wpOne_2 rfl rfl ?_; intro K hK; (first | (refine wp_store_st  _ _ _ rfl rfl (v := .agg (List.toArray _)) rfl HS tk sz_impl_Ring vcs rfx rfx (by simp) ?_ rfl; clear HS; intro w7_3 hz7_3 HS; simp only [nicL, Value.cells, List.append_nil] at HS) | (refine wp_store_st  _ _ _ rfl rfl (v := .agg _) rfl HS tk sz_impl_Ring vcs rfx rfx (by simp) ?_ rfl; clear HS; intro w7_3 hz7_3 HS; simp only [nicL, Value.cells, List.append_nil] at HS)); (try go_simp); refine hK _ _ ?_; clear hK K)))
        | ((with_reducible ((show wpOne _ _ _ _ 4 2 _ _ _))); (first | (refine wpOne_skip rfl rfl ?_; (try go_simp)) | (refine wpOne_2 rfl rfl ?_; intro K hK; go_simp; refine hK _ _ ?_; clear hK K)))
        | (with_reducible refine wpPlan_done ?_))
      all_goals
        go_wp2
        refine bodyPost_rets rfx (RVs.tmp rfx (RVs.cell rfx HS tk ag_impl_Ring rfx (RVs.tmp rfx RVs.nil))) (by simp) rfx ?_
        rw [HN.out]
        exact ⟨rfl, HS.ex⟩

end Go.Proofs.Ytelkplponnfkpaa
