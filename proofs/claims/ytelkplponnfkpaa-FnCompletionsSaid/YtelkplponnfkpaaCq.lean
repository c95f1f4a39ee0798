/- Completion queues: PutCompletion, NextCompletion: the program and the reference. -/
import Derived.Test.YtelkplponnfkpaaRows
import Derived.Test.YtelkplponnfkpaaMemG
import Derived.Test.YtelkplponnfkpaaComp
import Derived.Test.YtelkplponnfkpaaTk
namespace Go.Proofs.Ytelkplponnfkpaa
open Go.RowKit
set_option linter.unusedVariables false
set_option linter.unusedSimpArgs false

def phaseC (s c : Int) : Int := if c < s then 1 else 0
def slotC (b s c : Int) : Int := b + c % s * 16
def nextC (s c : Int) : Int := (c + 1) % (2 * s)
abbrev Comp := Int × Int × Int × Int × Int
theorem queueOk_facts {b s c : Int} (h : queueOkB b s c = true) : 0 ≤ b ∧ b ≤ 130944 ∧ (s = 2 ∨ s = 4 ∨ s = 8 ∨ s = 16) ∧ 0 ≤ c ∧ c ≤ 2 * s - 1 := by
  simp only [queueOkB, sizeB, Bool.and_eq_true, Bool.or_eq_true, beq_iff_eq, inB_iff] at h
  omega
theorem phaseC_bd (s c : Int) : 0 ≤ phaseC s c ∧ phaseC s c ≤ 1 := by unfold phaseC; split <;> omega
theorem slotC_bd {b s c : Int} (h : queueOkB b s c = true) : 0 ≤ slotC b s c ∧ slotC b s c ≤ 131184 := by
  obtain ⟨h1, h2, h3, h4, h5⟩ := queueOk_facts h
  unfold slotC
  have := Int.emod_nonneg c (show s ≠ 0 by omega)
  have := Int.emod_lt_of_pos c (show 0 < s by omega)
  omega
theorem nextC_ok {b s c : Int} (h : queueOkB b s c = true) : queueOkB b s (nextC s c) = true := by
  obtain ⟨h1, h2, h3, h4, h5⟩ := queueOk_facts h
  unfold nextC
  have := Int.emod_nonneg (c + 1) (show 2 * s ≠ 0 by omega)
  have := Int.emod_lt_of_pos (c + 1) (show 0 < 2 * s by omega)
  simp only [queueOkB, sizeB, Bool.and_eq_true, Bool.or_eq_true, beq_iff_eq, inB_iff] at h ⊢
  refine ⟨h.1, ?_, ?_⟩ <;> omega
def putC (l : List Mp) (ps : Pg) (d b s c : Int) (x1 x2 x3 x4 x5 : Int) : Pg × Int × Bool :=
  if queueOkB b s c then if completionOkB x1 x2 x3 x4 x5 then match dmaWF l ps d (slotC b s c) (encC x1 x2 x3 x4 x5 (phaseC s c)) true with
    | (qs, true) => (qs, nextC s c, true)
    | (_, false) => (ps, c, false)
  else (ps, c, false) else (ps, c, false)
def nextF (l : List Mp) (ps : Pg) (d b s c : Int) : Comp × Int × Bool :=
  if queueOkB b s c then match dmaRF l ps d (slotC b s c) 16 with
    | (t, true) => if get32 t 12 = phaseC s c then ((get16 t 0, get16 t 2, get16 t 4, get16 t 6, get32 t 8), nextC s c, true) else ((0, 0, 0, 0, 0), c, false)
    | (_, false) => ((0, 0, 0, 0, 0), c, false)
  else ((0, 0, 0, 0, 0), c, false)
theorem dmaWF_same {l : List Mp} {ps qs : Pg} {d a : Int} {s : ByteArray} {wt : Bool} (h : (qs, false) = dmaWF l ps d a s wt) : qs = ps := by
  unfold dmaWF at h
  split at h
  · cases h
  · simp only [Prod.mk.injEq] at h; exact h.1
theorem dmaWF_len {l : List Mp} {ps qs : Pg} {d a : Int} {s : ByteArray} {wt ok : Bool} (h : (qs, ok) = dmaWF l ps d a s wt) : qs.length = ps.length := by
  unfold dmaWF at h
  split at h
  · rename_i hq; simp only [Prod.mk.injEq] at h; rw [h.1]; exact (dmaW_ok hq).2.1
  · simp only [Prod.mk.injEq] at h; rw [h.1]
theorem dmaRF_size {l : List Mp} {ps : Pg} {d a n : Int} {t : ByteArray} (h : (t, true) = dmaRF l ps d a n) : (t.size : Int) = n := by
  unfold dmaRF at h
  split at h
  · rename_i hq; simp only [Prod.mk.injEq] at h; rw [h.1]; exact (dmaR_size hq).1
  · cases h
theorem dmaRF_none {l : List Mp} {ps : Pg} {d a n : Int} {t : ByteArray} (h : (t, false) = dmaRF l ps d a n) : t = ⟨#[]⟩ := by
  unfold dmaRF at h
  split at h
  · cases h
  · simp only [Prod.mk.injEq] at h; exact h.1
theorem word_size (v : Int) : (word16 v).size ≤ 2 ∧ (word32 v).size ≤ 4 := ⟨word16_le v, word32_le v⟩
theorem encC_size (a b c d h p : Int) : (encC a b c d h p).size ≤ 16 := by
  have h1 := word16_le a; have h2 := word16_le b; have h3 := word16_le c; have h4 := word16_le d; have h5 := word32_le h; have h6 := word32_le p
  unfold encC
  simp only [ByteArray.size_append]; omega

set_option maxRecDepth 100000 in
set_option maxHeartbeats 4000000 in
theorem slotOfCount_any (b s c : Int) (w : World) (hq : queueOkB b s c = true) :
    Calls Try.prog 57 #[.agg #[.int .i64 b, .int .i64 s, .int .i64 c]] w fun e w' => e = .returned (.int .i64 (slotC b s c)) ∧ Ex w w' := by
  obtain ⟨b0, b1, hs, c0, c1⟩ := queueOk_facts hq
  have q1 : c.tmod s = c % s := Int.tmod_eq_emod_of_nonneg c0
  have m0 := Int.emod_nonneg c (show s ≠ 0 by omega)
  have m1 := Int.emod_lt_of_pos c (show 0 < s by omega)
  have sz : s ≠ 0 := by omega
  have s2 : s ≤ 16 := by omega
  have w1 : IntKind.i64.wrap (c % s * 16) = c % s * 16 := IntWalk.i64_in _ (by omega)
  have w2 : IntKind.i64.wrap (b + c % s * 16) = b + c % s * 16 := IntWalk.i64_in _ (by omega)
  have w3 : IntKind.i64.wrap (16 * (c % s)) = 16 * (c % s) := IntWalk.i64_in _ (by omega)
  have w4 : IntKind.i64.wrap (b + 16 * (c % s)) = b + 16 * (c % s) := IntWalk.i64_in _ (by omega)
  have sz2 : (s == 0) = false := by simp [sz]
  have HM : Hid (slotC b s c = b + c % s * 16) := hid rfl
  clear hs
  have HS := St.start w
  go_enter Try.func57, Try.ntmps57
  go_wp2_with (first
        | ((with_reducible (show wpList _ _ _ (Oper.mk (some 1) (Op.box _ _) _ _ _ _ :: _) _ _)); refine wpList_box_st (o := ⟨some 1, .box _ _, _, _, _, _⟩) rfl _ _ rfl (v := .agg (List.toArray _)) rfl HS ?_; clear HS; intro w1 b1 hb1 HS; simp only [Value.cells] at HS))
  refine wp_region_plan_st HS (.early 0 (.early 1 (.early 2 (.early 3 (.forced 4 1 (.forced 5 1 (.forced 6 1 (.forced 7 1 (.forced 8 2 (.forced 9 2 .done)))))))))) (by kernel_rfl) (by as_aux_lemma => kernel_rfl) ?_
  intro hne
  replace HS := HS.drew
  try go_simp
  repeat' (first
    | (with_reducible refine wpPlan_forced ?_)
    | ((with_reducible (first | (show wpPlan _ _ _ _ (.early 0 _) _ _) | (show wpPlan _ _ _ _ (.early 2 _) _ _))); (first | (refine wpPlan_skipE rfl rfl ?_; (try go_simp)) | (refine wpPlan_early rfl rfl ?_; intro K hK; (first | go_big_quiet_op); (first | go_big_quiet_on | (refine ⟨_, fun _ => rfl, ?_⟩; go_big_quiet_on)))))
    | ((with_reducible (first | (show wpPlan _ _ _ _ (.early 1 _) _ _) | (show wpPlan _ _ _ _ (.early 3 _) _ _))); (first | (refine wpPlan_skipE rfl rfl ?_; (try go_simp)) | (refine wpPlan_early rfl rfl ?_; intro K hK; (first | ((refine quiet_loadS_st  _ _ rfl rfl tk sc_int rfx ?_); (try go_simp)) | go_big_quiet_op); (first | go_big_quiet_on | (refine ⟨_, fun _ => rfl, ?_⟩; go_big_quiet_on)))))
    | ((with_reducible (first | (show wpOne _ _ _ _ 4 1 _ _ _) | (show wpOne _ _ _ _ 6 1 _ _ _) | (show wpOne _ _ _ _ 7 1 _ _ _))); (first | (refine wpOne_skip rfl rfl ?_; (try go_simp)) | (refine wpOne_1 rfl rfl ?_; intro K hK; go_simp; refine hK _ _ ?_ ?_; (focus (exact stw HS)); clear hK K)))
    | ((with_reducible ((show wpOne _ _ _ _ 5 1 _ _ _))); (first | (refine wpOne_skip rfl rfl ?_; (try go_simp)) | (refine wpOne_1 rfl rfl ?_; intro K hK; (first | (refine wp_loadS_st  _ _ rfl rfl HS tk sc_int rfx ?_)); (try go_simp); refine hK _ _ ?_ ?_; (focus (exact stw HS)); clear hK K)))
    | ((with_reducible (first | (show wpOne _ _ _ _ 8 2 _ _ _) | (show wpOne _ _ _ _ 9 2 _ _ _))); (first | (refine wpOne_skip rfl rfl ?_; (try go_simp)) | (refine wpOne_2 rfl rfl ?_; intro K hK; go_simp; refine hK _ _ ?_; clear hK K)))
    | (with_reducible refine wpPlan_done ?_))
  go_wp2
  go_ret
  exact ⟨ret_int HM.out.symm, HS.ex⟩

set_option maxRecDepth 100000 in
set_option maxHeartbeats 4000000 in
theorem phaseOf_any (b s c : Int) (w : World) :
    Calls Try.prog 59 #[.agg #[.int .i64 b, .int .i64 s, .int .i64 c]] w fun e w' => e = .returned (.int .i64 (phaseC s c)) ∧ Ex w w' := by
  by_cases h : c < s
  case pos =>
    have HM : Hid (phaseC s c = 1) := hid (by unfold phaseC; rw [if_pos h])
    have HS := St.start w
    go_enter Try.func59, Try.ntmps59
    go_wp2_with (first
          | ((with_reducible (show wpList _ _ _ (Oper.mk (some 1) (Op.box _ _) _ _ _ _ :: _) _ _)); refine wpList_box_st (o := ⟨some 1, .box _ _, _, _, _, _⟩) rfl _ _ rfl (v := .agg (List.toArray _)) rfl HS ?_; clear HS; intro w1 b1 hb1 HS; simp only [Value.cells] at HS)
          | ((with_reducible (show wpList _ _ _ (Oper.mk (some 4) (Op.load _ _) _ _ _ _ :: _) _ _)); refine wpList_loadS_st (o := ⟨some 4, .load _ _, _, _, _, _⟩) rfl _ _ rfl rfl HS tk sc_int rfx ?_)
          | ((with_reducible (show wpList _ _ _ (Oper.mk (some 6) (Op.load _ _) _ _ _ _ :: _) _ _)); refine wpList_loadS_st (o := ⟨some 6, .load _ _, _, _, _, _⟩) rfl _ _ rfl rfl HS tk sc_int rfx ?_))
    go_ret
    exact ⟨ret_int HM.out.symm, HS.ex⟩
  case neg =>
    have HM : Hid (phaseC s c = 0) := hid (by unfold phaseC; rw [if_neg h])
    have HS := St.start w
    go_enter Try.func59, Try.ntmps59
    go_wp2_with (first
          | ((with_reducible (show wpList _ _ _ (Oper.mk (some 1) (Op.box _ _) _ _ _ _ :: _) _ _)); refine wpList_box_st (o := ⟨some 1, .box _ _, _, _, _, _⟩) rfl _ _ rfl (v := .agg (List.toArray _)) rfl HS ?_; clear HS; intro w1 b1 hb1 HS; simp only [Value.cells] at HS)
          | ((with_reducible (show wpList _ _ _ (Oper.mk (some 4) (Op.load _ _) _ _ _ _ :: _) _ _)); refine wpList_loadS_st (o := ⟨some 4, .load _ _, _, _, _, _⟩) rfl _ _ rfl rfl HS tk sc_int rfx ?_)
          | ((with_reducible (show wpList _ _ _ (Oper.mk (some 6) (Op.load _ _) _ _ _ _ :: _) _ _)); refine wpList_loadS_st (o := ⟨some 6, .load _ _, _, _, _, _⟩) rfl _ _ rfl rfl HS tk sc_int rfx ?_))
    go_ret
    exact ⟨ret_int HM.out.symm, HS.ex⟩

set_option maxRecDepth 100000 in
set_option maxHeartbeats 4000000 in
theorem l25Phase_any (b s c : Int) (w : World) (hq : queueOkB b s c = true) :
    Calls Try.prog 68 #[.agg #[.int .i64 b, .int .i64 s, .int .i64 c]] w fun e w' => e = .returned (.int .i64 (phaseC s c)) ∧ Ex w w' := by
  obtain ⟨b0, b1, hs, c0, c1⟩ := queueOk_facts hq
  have hd : c / s = if c < s then 0 else 1 := by
    split
    · exact Int.ediv_eq_zero_of_lt c0 (by assumption)
    · have : c = (c - s) + 1 * s := by omega
      rw [this, Int.add_mul_ediv_right _ _ (by omega), Int.ediv_eq_zero_of_lt (by omega) (by omega)]; rfl
  have q1 : c.tdiv s = c / s := Int.tdiv_eq_ediv_of_nonneg c0
  have sz : s ≠ 0 := by omega
  have sz2 : (s == 0) = false := by simp [sz]
  have HM : Hid (phaseC s c = 1 - c / s) := hid (by unfold phaseC; rw [hd]; split <;> rfl)
  have hd0 : 0 ≤ c / s := by rw [hd]; split <;> omega
  have hd1 : c / s ≤ 1 := by rw [hd]; split <;> omega
  clear hs hd
  have HS := St.start w
  go_enter Try.func68, Try.ntmps68
  go_wp2_with (first
        | ((with_reducible (show wpList _ _ _ (Oper.mk (some 1) (Op.box _ _) _ _ _ _ :: _) _ _)); refine wpList_box_st (o := ⟨some 1, .box _ _, _, _, _, _⟩) rfl _ _ rfl (v := .agg (List.toArray _)) rfl HS ?_; clear HS; intro w1 b1 hb1 HS; simp only [Value.cells] at HS)
        | ((with_reducible (show wpList _ _ _ (Oper.mk (some 4) (Op.load _ _) _ _ _ _ :: _) _ _)); refine wpList_loadS_st (o := ⟨some 4, .load _ _, _, _, _, _⟩) rfl _ _ rfl rfl HS tk sc_int rfx ?_)
        | ((with_reducible (show wpList _ _ _ (Oper.mk (some 6) (Op.load _ _) _ _ _ _ :: _) _ _)); refine wpList_loadS_st (o := ⟨some 6, .load _ _, _, _, _, _⟩) rfl _ _ rfl rfl HS tk sc_int rfx ?_))
  go_ret
  exact ⟨ret_int HM.out.symm, HS.ex⟩

def RetPut (w : World) (qs : Pg) (b s c : Int) (ok : Bool) (e : Ending) (w' : World) : Prop := ∃ A k, e = .returned (.tuple #[.agg #[.slice A qs.length k], .agg #[.int .i64 b, .int .i64 s, .int .i64 c], .bool ok]) ∧ Owns w.heap.size w' qs [.slice A qs.length k] ∧ Ex w w'
theorem retPut {w0 w : World} {Is Js : List Asn} {qs : Pg} {v : Value} {b s c : Int} {ok : Bool} (h : St w0 w Is) (t : Take Is (ownA qs [v]) Js) : RetPut w0 qs b s c ok (.returned (.tuple #[.agg #[v], .agg #[.int .i64 b, .int .i64 s, .int .i64 c], .bool ok])) w := by
  obtain ⟨a, k, rfl⟩ := ownA.form h t
  exact ⟨a, k, rfl, h.owns t, h.ex⟩

set_option maxRecDepth 100000 in
set_option maxHeartbeats 4000000 in
theorem putCompletion_any (v1 v2 : Value) (l : List Mp) (ps : Pg) (d b s c x1 x2 x3 x4 x5 : Int) (w : World) (k1 : Holds w l [v1]) (k2 : Holds w ps [v2]) (hl : ps.length ≤ 1099511627776) (hd : i64ok d) {qs : Pg} {c2 : Int} {ok : Bool} (hr : (qs, c2, ok) = putC l ps d b s c x1 x2 x3 x4 x5) :
    Calls Try.prog 13 #[v1, .agg #[v2], .int .i64 d, .agg #[.int .i64 b, .int .i64 s, .int .i64 c], .agg #[.int .i64 x1, .int .i64 x2, .int .i64 x3, .int .i64 x4, .int .i64 x5]] w (RetPut w qs b s c2 ok) := by
  obtain ⟨AA, cap, rfl, z1, z2⟩ := k1.fl
  unfold maxLen at z2
  obtain ⟨BB, cap2, rfl, y1, y2⟩ := k2.fl
  unfold maxLen at y2
  replace hd := hid hd
  cases hq : queueOkB b s c
  case false =>
    have HQ := hid hq
    unfold putC at hr
    rw [hq, if_neg (by decide)] at hr
    simp only [Prod.mk.injEq] at hr
    obtain ⟨e1, e2, rfl⟩ := hr
    replace e1 := e1.symm
    subst e1
    replace e2 := e2.symm
    subst e2
    clear hq
    have HS := St.start w
    go_enter Try.func13, Try.ntmps13
    go_wp2_with (first
          | (go_at_call 15; (with_reducible refine (queueOk_any b s c _).mono ?_); rintro e w' ⟨rfl, hx⟩; rw [HQ.out]; replace HS := HS.grow hx; clear hx)
          | ((with_reducible (show wpList _ _ _ (Oper.mk (some 6) (Op.box _ _) _ _ _ _ :: _) _ _)); refine wpList_box_st (o := ⟨some 6, .box _ _, _, _, _, _⟩) rfl _ _ rfl (v := .agg (List.toArray _)) rfl HS ?_; clear HS; intro w6 b6 hb6 HS; simp only [Value.cells] at HS)
          | ((with_reducible (show wpList _ _ _ (Oper.mk (some 8) (Op.box _ _) _ _ _ _ :: _) _ _)); refine wpList_box_st (o := ⟨some 8, .box _ _, _, _, _, _⟩) rfl _ _ rfl (v := .agg (List.toArray _)) rfl HS ?_; clear HS; intro w8 b8 hb8 HS; simp only [Value.cells] at HS)
          | ((with_reducible (show wpList _ _ _ (Oper.mk (some 9) (Op.box _ _) _ _ _ _ :: _) _ _)); refine wpList_box_st (o := ⟨some 9, .box _ _, _, _, _, _⟩) rfl _ _ rfl (v := .agg (List.toArray _)) rfl HS ?_; clear HS; intro w9 b9 hb9 HS; simp only [Value.cells] at HS)
          | ((with_reducible (show wpList _ _ _ (Oper.mk (some 10) (Op.alloc _) _ _ _ _ :: _) _ _)); refine wpList_alloc_st (o := ⟨some 10, .alloc _, _, _, _, _⟩) rfl _ rfl zc_impl_Memory HS ?_; clear HS; intro w10 b10 hb10 HS)
          | ((with_reducible (show wpList _ _ _ (Oper.mk (some 11) (Op.alloc _) _ _ _ _ :: _) _ _)); refine wpList_alloc_st (o := ⟨some 11, .alloc _, _, _, _, _⟩) rfl _ rfl zc_impl_CompletionQueue HS ?_; clear HS; intro w11 b11 hb11 HS)
          | ((with_reducible (show wpList _ _ _ (Oper.mk (some 15) (Op.load _ _) _ _ _ _ :: _) _ _)); refine wpList_loadA_st (o := ⟨some 15, .load _ _, _, _, _, _⟩) rfl _ _ rfl rfl HS tk ag_impl_CompletionQueue lit rfl ?_))
    refine wp_region_plan_st (HS.arr (show Arr _ [rowA b8 _ _, rowA b6 _ _] from ary)) (.early 0 (.early 2 (.forced 1 1 (.forced 3 1 (.forced 4 2 (.forced 5 2 .done)))))) (by kernel_rfl) (by as_aux_lemma => kernel_rfl) ?_
    intro hne
    replace HS := HS.drew
    try go_simp
    repeat' (first
      | (with_reducible refine wpPlan_forced ?_)
      | ((with_reducible ((show wpPlan _ _ _ _ (.early 0 _) _ _))); (first | (refine wpPlan_skipE rfl rfl ?_; (try go_simp)) | (refine wpPlan_early rfl rfl ?_; intro K hK; (first | ((refine quiet_loadA_st  _ _ rfl rfl tk ag_impl_Memory lit rfl ?_); (try go_simp)) | go_big_quiet_op); (first | go_big_quiet_on | (refine ⟨_, fun _ => rfl, ?_⟩; go_big_quiet_on)))))
      | ((with_reducible ((show wpPlan _ _ _ _ (.early 2 _) _ _))); (first | (refine wpPlan_skipE rfl rfl ?_; (try go_simp)) | (refine wpPlan_early rfl rfl ?_; intro K hK; (first | ((refine quiet_loadA_st  _ _ rfl rfl tk ag_impl_CompletionQueue lit rfl ?_); (try go_simp)) | go_big_quiet_op); (first | go_big_quiet_on | (refine ⟨_, fun _ => rfl, ?_⟩; go_big_quiet_on)))))
      | ((with_reducible ((show wpOne _ _ _ _ 1 1 _ _ _))); (first | (refine wpOne_skip rfl rfl ?_; (try go_simp)) | (refine wpOne_1 rfl rfl ?_; intro K hK; go_simp; (first | (go_at_call 55; (with_reducible refine (copyMemory_any _ ps _ (k2.ex HS.ex) hl).mono ?_); rintro e w' ⟨A0, c0, rfl, ho, hx⟩; replace HS := HS.own ho hx; clear ho hx)); (try go_simp); refine hK _ _ ?_ ?_; (focus (exact stw HS)); clear hK K)))
      | ((with_reducible ((show wpOne _ _ _ _ 3 1 _ _ _))); (first | (refine wpOne_skip rfl rfl ?_; (try go_simp)) | (refine wpOne_1 rfl rfl ?_; intro K hK; (first | (refine wp_store_st  _ _ _ rfl rfl (v := .agg (List.toArray _)) rfl HS tk sz_impl_Memory vcs rfx rfx (by simp) ?_ rfl; clear HS; intro w2_3 hz2_3 HS; simp only [nicL, Value.cells, List.append_nil] at HS) | (refine wp_store_st  _ _ _ rfl rfl (v := .agg _) rfl HS tk sz_impl_Memory vcs rfx rfx (by simp) ?_ rfl; clear HS; intro w2_3 hz2_3 HS; simp only [nicL, Value.cells, List.append_nil] at HS)); (try go_simp); refine hK _ _ ?_ ?_; (focus (exact stw HS)); clear hK K)))
      | ((with_reducible ((show wpOne _ _ _ _ 4 2 _ _ _))); (first | (refine wpOne_skip rfl rfl ?_; (try go_simp)) | (refine wpOne_2 rfl rfl ?_; intro K hK; (first | (refine wp_store_st  _ _ _ rfl rfl (v := .agg (List.toArray _)) rfl HS tk sz_impl_CompletionQueue vcs rfx rfx (by simp) ?_ rfl; clear HS; intro w2_4 hz2_4 HS; simp only [nicL, Value.cells, List.append_nil] at HS) | (refine wp_store_st  _ _ _ rfl rfl (v := .agg _) rfl HS tk sz_impl_CompletionQueue vcs rfx rfx (by simp) ?_ rfl; clear HS; intro w2_4 hz2_4 HS; simp only [nicL, Value.cells, List.append_nil] at HS)); (try go_simp); refine hK _ _ ?_; clear hK K)))
      | ((with_reducible ((show wpOne _ _ _ _ 5 2 _ _ _))); (first | (refine wpOne_skip rfl rfl ?_; (try go_simp)) | (refine wpOne_2 rfl rfl ?_; intro K hK; go_simp; refine hK _ _ ?_; clear hK K)))
      | (with_reducible refine wpPlan_done ?_))
    go_wp2
    refine bodyPost_rets rfx (RVs.cell rfx HS tk ag_impl_Memory rfx (RVs.cell rfx HS tk ag_impl_CompletionQueue rfx (RVs.tmp rfx RVs.nil))) (by simp) rfx ?_
    exact retPut HS tk
  case true =>
  cases hx : completionOkB x1 x2 x3 x4 x5
  case false =>
    have HQ := hid hq
    have HX := hid hx
    unfold putC at hr
    rw [hq, if_pos rfl, hx, if_neg (by decide)] at hr
    simp only [Prod.mk.injEq] at hr
    obtain ⟨e1, e2, rfl⟩ := hr
    replace e1 := e1.symm
    subst e1
    replace e2 := e2.symm
    subst e2
    clear hq hx
    have HS := St.start w
    go_enter Try.func13, Try.ntmps13
    go_wp2_with (first
          | (go_at_call 15; (with_reducible refine (queueOk_any b s c _).mono ?_); rintro e w' ⟨rfl, hx⟩; rw [HQ.out]; replace HS := HS.grow hx; clear hx)
          | (go_at_call 54; (with_reducible refine (completionOk_v HX.out _).mono ?_); rintro e w' ⟨rfl, hx⟩; replace HS := HS.grow hx; clear hx)
          | ((with_reducible (show wpList _ _ _ (Oper.mk (some 6) (Op.box _ _) _ _ _ _ :: _) _ _)); refine wpList_box_st (o := ⟨some 6, .box _ _, _, _, _, _⟩) rfl _ _ rfl (v := .agg (List.toArray _)) rfl HS ?_; clear HS; intro w6 b6 hb6 HS; simp only [Value.cells] at HS)
          | ((with_reducible (show wpList _ _ _ (Oper.mk (some 8) (Op.box _ _) _ _ _ _ :: _) _ _)); refine wpList_box_st (o := ⟨some 8, .box _ _, _, _, _, _⟩) rfl _ _ rfl (v := .agg (List.toArray _)) rfl HS ?_; clear HS; intro w8 b8 hb8 HS; simp only [Value.cells] at HS)
          | ((with_reducible (show wpList _ _ _ (Oper.mk (some 9) (Op.box _ _) _ _ _ _ :: _) _ _)); refine wpList_box_st (o := ⟨some 9, .box _ _, _, _, _, _⟩) rfl _ _ rfl (v := .agg (List.toArray _)) rfl HS ?_; clear HS; intro w9 b9 hb9 HS; simp only [Value.cells] at HS)
          | ((with_reducible (show wpList _ _ _ (Oper.mk (some 10) (Op.alloc _) _ _ _ _ :: _) _ _)); refine wpList_alloc_st (o := ⟨some 10, .alloc _, _, _, _, _⟩) rfl _ rfl zc_impl_Memory HS ?_; clear HS; intro w10 b10 hb10 HS)
          | ((with_reducible (show wpList _ _ _ (Oper.mk (some 11) (Op.alloc _) _ _ _ _ :: _) _ _)); refine wpList_alloc_st (o := ⟨some 11, .alloc _, _, _, _, _⟩) rfl _ rfl zc_impl_CompletionQueue HS ?_; clear HS; intro w11 b11 hb11 HS)
          | ((with_reducible (show wpList _ _ _ (Oper.mk (some 15) (Op.load _ _) _ _ _ _ :: _) _ _)); refine wpList_loadA_st (o := ⟨some 15, .load _ _, _, _, _, _⟩) rfl _ _ rfl rfl HS tk ag_impl_CompletionQueue lit rfl ?_)
          | ((with_reducible (show wpList _ _ _ (Oper.mk (some 19) (Op.load _ _) _ _ _ _ :: _) _ _)); refine wpList_loadA_st (o := ⟨some 19, .load _ _, _, _, _, _⟩) rfl _ _ rfl rfl HS tk ag_impl_Completion lit rfl ?_))
    refine wp_region_plan_st (HS.arr (show Arr _ [rowA b8 _ _, rowA b6 _ _] from ary)) (.early 0 (.early 2 (.forced 1 1 (.forced 3 1 (.forced 4 2 (.forced 5 2 .done)))))) (by kernel_rfl) (by as_aux_lemma => kernel_rfl) ?_
    intro hne
    replace HS := HS.drew
    try go_simp
    repeat' (first
      | (with_reducible refine wpPlan_forced ?_)
      | ((with_reducible ((show wpPlan _ _ _ _ (.early 0 _) _ _))); (first | (refine wpPlan_skipE rfl rfl ?_; (try go_simp)) | (refine wpPlan_early rfl rfl ?_; intro K hK; (first | ((refine quiet_loadA_st  _ _ rfl rfl tk ag_impl_Memory lit rfl ?_); (try go_simp)) | go_big_quiet_op); (first | go_big_quiet_on | (refine ⟨_, fun _ => rfl, ?_⟩; go_big_quiet_on)))))
      | ((with_reducible ((show wpPlan _ _ _ _ (.early 2 _) _ _))); (first | (refine wpPlan_skipE rfl rfl ?_; (try go_simp)) | (refine wpPlan_early rfl rfl ?_; intro K hK; (first | ((refine quiet_loadA_st  _ _ rfl rfl tk ag_impl_CompletionQueue lit rfl ?_); (try go_simp)) | go_big_quiet_op); (first | go_big_quiet_on | (refine ⟨_, fun _ => rfl, ?_⟩; go_big_quiet_on)))))
      | ((with_reducible ((show wpOne _ _ _ _ 1 1 _ _ _))); (first | (refine wpOne_skip rfl rfl ?_; (try go_simp)) | (refine wpOne_1 rfl rfl ?_; intro K hK; go_simp; (first | (go_at_call 55; (with_reducible refine (copyMemory_any _ ps _ (k2.ex HS.ex) hl).mono ?_); rintro e w' ⟨A0, c0, rfl, ho, hx⟩; replace HS := HS.own ho hx; clear ho hx)); (try go_simp); refine hK _ _ ?_ ?_; (focus (exact stw HS)); clear hK K)))
      | ((with_reducible ((show wpOne _ _ _ _ 3 1 _ _ _))); (first | (refine wpOne_skip rfl rfl ?_; (try go_simp)) | (refine wpOne_1 rfl rfl ?_; intro K hK; (first | (refine wp_store_st  _ _ _ rfl rfl (v := .agg (List.toArray _)) rfl HS tk sz_impl_Memory vcs rfx rfx (by simp) ?_ rfl; clear HS; intro w2_3 hz2_3 HS; simp only [nicL, Value.cells, List.append_nil] at HS) | (refine wp_store_st  _ _ _ rfl rfl (v := .agg _) rfl HS tk sz_impl_Memory vcs rfx rfx (by simp) ?_ rfl; clear HS; intro w2_3 hz2_3 HS; simp only [nicL, Value.cells, List.append_nil] at HS)); (try go_simp); refine hK _ _ ?_ ?_; (focus (exact stw HS)); clear hK K)))
      | ((with_reducible ((show wpOne _ _ _ _ 4 2 _ _ _))); (first | (refine wpOne_skip rfl rfl ?_; (try go_simp)) | (refine wpOne_2 rfl rfl ?_; intro K hK; (first | (refine wp_store_st  _ _ _ rfl rfl (v := .agg (List.toArray _)) rfl HS tk sz_impl_CompletionQueue vcs rfx rfx (by simp) ?_ rfl; clear HS; intro w2_4 hz2_4 HS; simp only [nicL, Value.cells, List.append_nil] at HS) | (refine wp_store_st  _ _ _ rfl rfl (v := .agg _) rfl HS tk sz_impl_CompletionQueue vcs rfx rfx (by simp) ?_ rfl; clear HS; intro w2_4 hz2_4 HS; simp only [nicL, Value.cells, List.append_nil] at HS)); (try go_simp); refine hK _ _ ?_; clear hK K)))
      | ((with_reducible ((show wpOne _ _ _ _ 5 2 _ _ _))); (first | (refine wpOne_skip rfl rfl ?_; (try go_simp)) | (refine wpOne_2 rfl rfl ?_; intro K hK; go_simp; refine hK _ _ ?_; clear hK K)))
      | (with_reducible refine wpPlan_done ?_))
    go_wp2
    refine bodyPost_rets rfx (RVs.cell rfx HS tk ag_impl_Memory rfx (RVs.cell rfx HS tk ag_impl_CompletionQueue rfx (RVs.tmp rfx RVs.nil))) (by simp) rfx ?_
    exact retPut HS tk
  case true =>
  have HQ := hid hq
  have HX := hid hx
  obtain ⟨sb0, sb1⟩ := slotC_bd hq
  obtain ⟨ph0, ph1⟩ := phaseC_bd s c
  have HP : Hid (inB (phaseC s c) 0 1 = true) := hid (inB_iff.2 ⟨ph0, ph1⟩)
  have HSI : Hid (i64ok (slotC b s c)) := hid (by first | (unfold i64ok; omega) | (unfold slotC at sb0 sb1; unfold i64ok; omega))
  have HES : Hid ((encC x1 x2 x3 x4 x5 (phaseC s c)).size ≤ 9223372036854775807) := hid (by have := encC_size x1 x2 x3 x4 x5 (phaseC s c); omega)
  unfold putC at hr
  rw [hq, if_pos rfl, hx, if_pos rfl] at hr
  obtain ⟨b0, b1, hs, c0, c1⟩ := queueOk_facts hq
  have q1 : c.tmod s = c % s := Int.tmod_eq_emod_of_nonneg c0
  have m0 := Int.emod_nonneg c (show s ≠ 0 by omega)
  have m1 := Int.emod_lt_of_pos c (show 0 < s by omega)
  have sz : s ≠ 0 := by omega
  have s2 : s ≤ 16 := by omega
  have w1 : IntKind.i64.wrap (c % s * 16) = c % s * 16 := IntWalk.i64_in _ (by omega)
  have w2 : IntKind.i64.wrap (b + c % s * 16) = b + c % s * 16 := IntWalk.i64_in _ (by omega)
  have w3 : IntKind.i64.wrap (16 * (c % s)) = 16 * (c % s) := IntWalk.i64_in _ (by omega)
  have w4 : IntKind.i64.wrap (b + 16 * (c % s)) = b + 16 * (c % s) := IntWalk.i64_in _ (by omega)
  have sz2 : (s == 0) = false := by simp [sz]
  skip
  obtain ⟨⟨rs, k⟩, hD⟩ : ∃ r, r = dmaWF l ps d (slotC b s c) (encC x1 x2 x3 x4 x5 (phaseC s c)) true := ⟨_, rfl⟩
  rw [← hD] at hr
  have HD : Hid ((rs, k) = dmaWF l ps d (slotC b s c) (encC x1 x2 x3 x4 x5 (phaseC s c)) true) := hid (by first | exact hD | (rw [show b + 16 * (c % s) = slotC b s c from by unfold slotC; omega]; exact hD))
  have hlen := dmaWF_len hD
  clear hq hx sb0 sb1 ph0 ph1 hs
  cases k
  case false =>
    simp only [Prod.mk.injEq] at hr
    obtain ⟨e1, e2, rfl⟩ := hr
    have e3 := dmaWF_same hD
    replace e3 := e3.symm
    subst e3
    replace e1 := e1.symm
    subst e1
    replace e2 := e2.symm
    subst e2
    clear hD hlen
    have HS := St.start w
    go_enter Try.func13, Try.ntmps13
    go_wp2_with (first
          | (go_at_call 15; (with_reducible refine (queueOk_any b s c _).mono ?_); rintro e w' ⟨rfl, hx⟩; rw [HQ.out]; replace HS := HS.grow hx; clear hx)
          | (go_at_call 54; (with_reducible refine (completionOk_v HX.out _).mono ?_); rintro e w' ⟨rfl, hx⟩; replace HS := HS.grow hx; clear hx)
          | ((with_reducible (show wpList _ _ _ (Oper.mk (some 6) (Op.box _ _) _ _ _ _ :: _) _ _)); refine wpList_box_st (o := ⟨some 6, .box _ _, _, _, _, _⟩) rfl _ _ rfl (v := .agg (List.toArray _)) rfl HS ?_; clear HS; intro w6 b6 hb6 HS; simp only [Value.cells] at HS)
          | ((with_reducible (show wpList _ _ _ (Oper.mk (some 8) (Op.box _ _) _ _ _ _ :: _) _ _)); refine wpList_box_st (o := ⟨some 8, .box _ _, _, _, _, _⟩) rfl _ _ rfl (v := .agg (List.toArray _)) rfl HS ?_; clear HS; intro w8 b8 hb8 HS; simp only [Value.cells] at HS)
          | ((with_reducible (show wpList _ _ _ (Oper.mk (some 9) (Op.box _ _) _ _ _ _ :: _) _ _)); refine wpList_box_st (o := ⟨some 9, .box _ _, _, _, _, _⟩) rfl _ _ rfl (v := .agg (List.toArray _)) rfl HS ?_; clear HS; intro w9 b9 hb9 HS; simp only [Value.cells] at HS)
          | ((with_reducible (show wpList _ _ _ (Oper.mk (some 10) (Op.alloc _) _ _ _ _ :: _) _ _)); refine wpList_alloc_st (o := ⟨some 10, .alloc _, _, _, _, _⟩) rfl _ rfl zc_impl_Memory HS ?_; clear HS; intro w10 b10 hb10 HS)
          | ((with_reducible (show wpList _ _ _ (Oper.mk (some 11) (Op.alloc _) _ _ _ _ :: _) _ _)); refine wpList_alloc_st (o := ⟨some 11, .alloc _, _, _, _, _⟩) rfl _ rfl zc_impl_CompletionQueue HS ?_; clear HS; intro w11 b11 hb11 HS)
          | ((with_reducible (show wpList _ _ _ (Oper.mk (some 15) (Op.load _ _) _ _ _ _ :: _) _ _)); refine wpList_loadA_st (o := ⟨some 15, .load _ _, _, _, _, _⟩) rfl _ _ rfl rfl HS tk ag_impl_CompletionQueue lit rfl ?_)
          | ((with_reducible (show wpList _ _ _ (Oper.mk (some 19) (Op.load _ _) _ _ _ _ :: _) _ _)); refine wpList_loadA_st (o := ⟨some 19, .load _ _, _, _, _, _⟩) rfl _ _ rfl rfl HS tk ag_impl_Completion lit rfl ?_))
    refine wp_region_plan_st HS (.early 0 (.early 1 (.early 2 (.early 3 (.early 5 (.early 6 (.fork 4 1 (.fork 7 1 (.fork 8 1 (.fork 9 1 (.pure 10 (.pure 11 (.pure 12 (.forced 13 1 (.forced 14 2 (.forced 15 2 .done)))))) 13 1 (.forced 9 2 (.forced 10 2 (.pure 11 (.pure 12 (.forced 14 2 (.forced 15 2 .done))))))) 13 1 (.forced 8 1 (.forced 9 2 (.forced 10 2 (.pure 11 (.pure 12 (.forced 14 2 (.forced 15 2 .done)))))))) 13 1 (.forced 7 1 (.forced 8 1 (.forced 9 2 (.forced 10 2 (.pure 11 (.pure 12 (.forced 14 2 (.forced 15 2 .done))))))))) 13 1 (.forced 4 1 (.forced 7 1 (.forced 8 1 (.forced 9 2 (.forced 10 2 (.pure 11 (.pure 12 (.forced 14 2 (.forced 15 2 .done)))))))))))))))) (by kernel_rfl) (by as_aux_lemma => kernel_rfl) ?_
    intro hne
    replace HS := HS.drew
    try go_simp
    repeat' (first
      | (with_reducible refine wpPlan_fork ?_ ?_)
      | (with_reducible refine wpPlan_forced ?_)
      | ((with_reducible (first | (show wpPlan _ _ _ _ (.early 0 _) _ _) | (show wpPlan _ _ _ _ (.early 2 _) _ _))); (first | (refine wpPlan_skipE rfl rfl ?_; (try go_simp)) | (refine wpPlan_early rfl rfl ?_; intro K hK; (first | go_big_quiet_op); (first | go_big_quiet_on | (refine ⟨_, fun _ => rfl, ?_⟩; go_big_quiet_on)))))
      | ((with_reducible ((show wpPlan _ _ _ _ (.early 1 _) _ _))); (first | (refine wpPlan_skipE rfl rfl ?_; (try go_simp)) | (refine wpPlan_early rfl rfl ?_; intro K hK; (first | ((refine quiet_loadA_st  _ _ rfl rfl tk ag_impl_Memory lit rfl ?_); (try go_simp)) | go_big_quiet_op); (first | go_big_quiet_on | (refine ⟨_, fun _ => rfl, ?_⟩; go_big_quiet_on)))))
      | ((with_reducible (first | (show wpPlan _ _ _ _ (.early 3 _) _ _) | (show wpPlan _ _ _ _ (.early 6 _) _ _))); (first | (refine wpPlan_skipE rfl rfl ?_; (try go_simp)) | (refine wpPlan_early rfl rfl ?_; intro K hK; (first | ((refine quiet_loadA_st  _ _ rfl rfl tk ag_impl_CompletionQueue lit rfl ?_); (try go_simp)) | go_big_quiet_op); (first | go_big_quiet_on | (refine ⟨_, fun _ => rfl, ?_⟩; go_big_quiet_on)))))
      | ((with_reducible ((show wpPlan _ _ _ _ (.early 5 _) _ _))); (first | (refine wpPlan_skipE rfl rfl ?_; (try go_simp)) | (refine wpPlan_early rfl rfl ?_; intro K hK; (first | ((refine quiet_loadA_st  _ _ rfl rfl tk ag_impl_Completion lit rfl ?_); (try go_simp)) | go_big_quiet_op); (first | go_big_quiet_on | (refine ⟨_, fun _ => rfl, ?_⟩; go_big_quiet_on)))))
      | ((with_reducible ((show wpOne _ _ _ _ 4 1 _ _ _))); (first | (refine wpOne_skip rfl rfl ?_; (try go_simp)) | (refine wpOne_1 rfl rfl ?_; intro K hK; go_simp; (first | (go_at_call 57; (with_reducible refine (slotOfCount_any b s c _ HQ.out).mono ?_); rintro e w' ⟨rfl, hx⟩; replace HS := HS.grow hx; clear hx)); (try go_simp); refine hK _ _ ?_ ?_; (focus (exact stw HS)); clear hK K)))
      | ((with_reducible ((show wpOne _ _ _ _ 7 1 _ _ _))); (first | (refine wpOne_skip rfl rfl ?_; (try go_simp)) | (refine wpOne_1 rfl rfl ?_; intro K hK; go_simp; (first | (go_at_call 59; (with_reducible refine (phaseOf_any b s c _).mono ?_); rintro e w' ⟨rfl, hx⟩; replace HS := HS.grow hx; clear hx)); (try go_simp); refine hK _ _ ?_ ?_; (focus (exact stw HS)); clear hK K)))
      | ((with_reducible ((show wpOne _ _ _ _ 8 1 _ _ _))); (first | (refine wpOne_skip rfl rfl ?_; (try go_simp)) | (refine wpOne_1 rfl rfl ?_; intro K hK; go_simp; (first | (go_at_call 58; (with_reducible refine (encode_t x1 x2 x3 x4 x5 _ HX.out HP.out _).mono ?_); rintro e w' ⟨rfl, hx⟩; replace HS := HS.grow hx; clear hx)); (try go_simp); refine hK _ _ ?_ ?_; (focus (exact stw HS)); clear hK K)))
      | ((with_reducible ((show wpOne _ _ _ _ 9 1 _ _ _))); (first | (refine wpOne_skip rfl rfl ?_; (try go_simp)) | (refine wpOne_1 rfl rfl ?_; intro K hK; go_simp; (first | (go_at_call 56; (with_reducible refine (dmaWrite_any _ _ l ps d (slotC b s c) (encC x1 x2 x3 x4 x5 (phaseC s c)) _ (k1.ex HS.ex) (k2.ex HS.ex) hl hd.out HSI.out HES.out HD.out).mono ?_); rintro e w' ⟨A7, c7, rfl, ho, hx⟩; replace HS := HS.own ho hx; clear ho hx)); (try go_simp); refine hK _ _ ?_ ?_; (focus (exact stw HS)); clear hK K)))
      | ((with_reducible ((show wpPlan _ _ _ _ (.pure _ _) _ _))); (first | (refine wpPlan_skipP rfl rfl ?_; (try go_simp)) | (refine wpPlan_pure rfl rfl ?_; intro K hK; go_big_quiet_op; (first | go_big_quiet_on | (refine ⟨_, fun _ => rfl, ?_⟩; go_big_quiet_on)))))
      | ((with_reducible ((show wpOne _ _ _ _ 13 1 _ _ _))); (first | (refine wpOne_skip rfl rfl ?_; (try go_simp)) | (refine wpOne_1 rfl rfl ?_; intro K hK; (first | (refine wp_alloc_st  _ rfl zc_impl_Memory HS ?_; clear HS; intro w13 b13 hb13 HS)); (try go_simp); refine hK _ _ ?_ ?_; (focus (exact stw HS)); clear hK K)))
      | ((with_reducible ((show wpOne _ _ _ _ 14 2 _ _ _))); (first | (refine wpOne_skip rfl rfl ?_; (try go_simp)) | (refine wpOne_2 rfl rfl ?_; intro K hK; (first | (refine wp_store_st  _ _ _ rfl rfl (v := .agg (List.toArray _)) rfl HS tk sz_impl_Memory vcs rfx rfx (by simp) ?_ rfl; clear HS; intro w3_14 hz3_14 HS; simp only [nicL, Value.cells, List.append_nil] at HS) | (refine wp_store_st  _ _ _ rfl rfl (v := .agg _) rfl HS tk sz_impl_Memory vcs rfx rfx (by simp) ?_ rfl; clear HS; intro w3_14 hz3_14 HS; simp only [nicL, Value.cells, List.append_nil] at HS)); (try go_simp); refine hK _ _ ?_; clear hK K)))
      | ((with_reducible (first | (show wpOne _ _ _ _ 15 2 _ _ _) | (show wpOne _ _ _ _ 10 2 _ _ _))); (first | (refine wpOne_skip rfl rfl ?_; (try go_simp)) | (refine wpOne_2 rfl rfl ?_; intro K hK; go_simp; refine hK _ _ ?_; clear hK K)))
      | ((with_reducible ((show wpOne _ _ _ _ 9 2 _ _ _))); (first | (refine wpOne_skip rfl rfl ?_; (try go_simp)) | (refine wpOne_2 rfl rfl ?_; intro K hK; go_simp; (first | (go_at_call 56; (with_reducible refine (dmaWrite_any _ _ l ps d (slotC b s c) (encC x1 x2 x3 x4 x5 (phaseC s c)) _ (k1.ex HS.ex) (k2.ex HS.ex) hl hd.out HSI.out HES.out HD.out).mono ?_); rintro e w' ⟨A7, c7, rfl, ho, hx⟩; replace HS := HS.own ho hx; clear ho hx)); (try go_simp); refine hK _ _ ?_; clear hK K)))
      | (with_reducible refine wpPlan_done ?_))
    all_goals
      go_wp2
      refine wp_region_plan_st (HS.arr (show Arr _ [rowA b6 _ _, rowA b13 _ _, rowA b8 _ _] from ary)) (.early 0 (.early 1 (.forced 2 1 (.forced 3 2 (.forced 4 2 .done))))) (by kernel_rfl) (by as_aux_lemma => kernel_rfl) ?_
      intro hne
      replace HS := HS.drew
      try go_simp
      repeat' (first
        | (with_reducible refine wpPlan_forced ?_)
        | ((with_reducible ((show wpPlan _ _ _ _ (.early 0 _) _ _))); (first | (refine wpPlan_skipE rfl rfl ?_; (try go_simp)) | (refine wpPlan_early rfl rfl ?_; intro K hK; (first | ((refine quiet_loadA_st  _ _ rfl rfl tk ag_impl_Memory lit rfl ?_); (try go_simp)) | go_big_quiet_op); (first | go_big_quiet_on | (refine ⟨_, fun _ => rfl, ?_⟩; go_big_quiet_on)))))
        | ((with_reducible ((show wpPlan _ _ _ _ (.early 1 _) _ _))); (first | (refine wpPlan_skipE rfl rfl ?_; (try go_simp)) | (refine wpPlan_early rfl rfl ?_; intro K hK; (first | ((refine quiet_loadA_st  _ _ rfl rfl tk ag_impl_CompletionQueue lit rfl ?_); (try go_simp)) | go_big_quiet_op); (first | go_big_quiet_on | (refine ⟨_, fun _ => rfl, ?_⟩; go_big_quiet_on)))))
        | ((with_reducible ((show wpOne _ _ _ _ 2 1 _ _ _))); (first | (refine wpOne_skip rfl rfl ?_; (try go_simp)) | (refine wpOne_1 rfl rfl ?_; intro K hK; (first | (refine wp_store_st  _ _ _ rfl rfl (v := .agg (List.toArray _)) rfl HS tk sz_impl_Memory vcs rfx rfx (by simp) ?_ rfl; clear HS; intro w5_2 hz5_2 HS; simp only [nicL, Value.cells, List.append_nil] at HS) | (refine wp_store_st  _ _ _ rfl rfl (v := .agg _) rfl HS tk sz_impl_Memory vcs rfx rfx (by simp) ?_ rfl; clear HS; intro w5_2 hz5_2 HS; simp only [nicL, Value.cells, List.append_nil] at HS)); (try go_simp); refine hK _ _ ?_ ?_; (focus (exact stw HS)); clear hK K)))
        | ((with_reducible ((show wpOne _ _ _ _ 3 2 _ _ _))); (first | (refine wpOne_skip rfl rfl ?_; (try go_simp)) | (refine wpOne_2 rfl rfl ?_; intro K hK; (first | (refine wp_store_st  _ _ _ rfl rfl (v := .agg (List.toArray _)) rfl HS tk sz_impl_CompletionQueue vcs rfx rfx (by simp) ?_ rfl; clear HS; intro w5_3 hz5_3 HS; simp only [nicL, Value.cells, List.append_nil] at HS) | (refine wp_store_st  _ _ _ rfl rfl (v := .agg _) rfl HS tk sz_impl_CompletionQueue vcs rfx rfx (by simp) ?_ rfl; clear HS; intro w5_3 hz5_3 HS; simp only [nicL, Value.cells, List.append_nil] at HS)); (try go_simp); refine hK _ _ ?_; clear hK K)))
        | ((with_reducible ((show wpOne _ _ _ _ 4 2 _ _ _))); (first | (refine wpOne_skip rfl rfl ?_; (try go_simp)) | (refine wpOne_2 rfl rfl ?_; intro K hK; go_simp; refine hK _ _ ?_; clear hK K)))
        | (with_reducible refine wpPlan_done ?_))
      go_wp2
      refine bodyPost_rets rfx (RVs.cell rfx HS tk ag_impl_Memory rfx (RVs.cell rfx HS tk ag_impl_CompletionQueue rfx (RVs.tmp rfx RVs.nil))) (by simp) rfx ?_
      exact retPut HS tk
  case true =>
    simp only [Prod.mk.injEq] at hr
    obtain ⟨rfl, rfl, rfl⟩ := hr
    have HM : Hid (nextC s c = (c + 1) % (2 * s)) := hid rfl
    have q3 : (c + 1).tmod (2 * s) = (c + 1) % (2 * s) := Int.tmod_eq_emod_of_nonneg (by omega)
    have q4 : 2 * s ≠ 0 := by omega
    have q5 : (2 * s == 0) = false := by simp [q4]
    have q6 : c ≤ 31 := by omega
    clear hD hlen
    have HS := St.start w
    go_enter Try.func13, Try.ntmps13
    go_wp2_with (first
          | (go_at_call 15; (with_reducible refine (queueOk_any b s c _).mono ?_); rintro e w' ⟨rfl, hx⟩; rw [HQ.out]; replace HS := HS.grow hx; clear hx)
          | (go_at_call 54; (with_reducible refine (completionOk_v HX.out _).mono ?_); rintro e w' ⟨rfl, hx⟩; replace HS := HS.grow hx; clear hx)
          | ((with_reducible (show wpList _ _ _ (Oper.mk (some 6) (Op.box _ _) _ _ _ _ :: _) _ _)); refine wpList_box_st (o := ⟨some 6, .box _ _, _, _, _, _⟩) rfl _ _ rfl (v := .agg (List.toArray _)) rfl HS ?_; clear HS; intro w6 b6 hb6 HS; simp only [Value.cells] at HS)
          | ((with_reducible (show wpList _ _ _ (Oper.mk (some 8) (Op.box _ _) _ _ _ _ :: _) _ _)); refine wpList_box_st (o := ⟨some 8, .box _ _, _, _, _, _⟩) rfl _ _ rfl (v := .agg (List.toArray _)) rfl HS ?_; clear HS; intro w8 b8 hb8 HS; simp only [Value.cells] at HS)
          | ((with_reducible (show wpList _ _ _ (Oper.mk (some 9) (Op.box _ _) _ _ _ _ :: _) _ _)); refine wpList_box_st (o := ⟨some 9, .box _ _, _, _, _, _⟩) rfl _ _ rfl (v := .agg (List.toArray _)) rfl HS ?_; clear HS; intro w9 b9 hb9 HS; simp only [Value.cells] at HS)
          | ((with_reducible (show wpList _ _ _ (Oper.mk (some 10) (Op.alloc _) _ _ _ _ :: _) _ _)); refine wpList_alloc_st (o := ⟨some 10, .alloc _, _, _, _, _⟩) rfl _ rfl zc_impl_Memory HS ?_; clear HS; intro w10 b10 hb10 HS)
          | ((with_reducible (show wpList _ _ _ (Oper.mk (some 11) (Op.alloc _) _ _ _ _ :: _) _ _)); refine wpList_alloc_st (o := ⟨some 11, .alloc _, _, _, _, _⟩) rfl _ rfl zc_impl_CompletionQueue HS ?_; clear HS; intro w11 b11 hb11 HS)
          | ((with_reducible (show wpList _ _ _ (Oper.mk (some 15) (Op.load _ _) _ _ _ _ :: _) _ _)); refine wpList_loadA_st (o := ⟨some 15, .load _ _, _, _, _, _⟩) rfl _ _ rfl rfl HS tk ag_impl_CompletionQueue lit rfl ?_)
          | ((with_reducible (show wpList _ _ _ (Oper.mk (some 19) (Op.load _ _) _ _ _ _ :: _) _ _)); refine wpList_loadA_st (o := ⟨some 19, .load _ _, _, _, _, _⟩) rfl _ _ rfl rfl HS tk ag_impl_Completion lit rfl ?_))
    refine wp_region_plan_st HS (.early 0 (.early 1 (.early 2 (.early 3 (.early 5 (.early 6 (.fork 4 1 (.fork 7 1 (.fork 8 1 (.fork 9 1 (.pure 10 (.pure 11 (.pure 12 (.forced 13 1 (.forced 14 2 (.forced 15 2 .done)))))) 13 1 (.forced 9 2 (.forced 10 2 (.pure 11 (.pure 12 (.forced 14 2 (.forced 15 2 .done))))))) 13 1 (.forced 8 1 (.forced 9 2 (.forced 10 2 (.pure 11 (.pure 12 (.forced 14 2 (.forced 15 2 .done)))))))) 13 1 (.forced 7 1 (.forced 8 1 (.forced 9 2 (.forced 10 2 (.pure 11 (.pure 12 (.forced 14 2 (.forced 15 2 .done))))))))) 13 1 (.forced 4 1 (.forced 7 1 (.forced 8 1 (.forced 9 2 (.forced 10 2 (.pure 11 (.pure 12 (.forced 14 2 (.forced 15 2 .done)))))))))))))))) (by kernel_rfl) (by as_aux_lemma => kernel_rfl) ?_
    intro hne
    replace HS := HS.drew
    try go_simp
    repeat' (first
      | (with_reducible refine wpPlan_fork ?_ ?_)
      | (with_reducible refine wpPlan_forced ?_)
      | ((with_reducible (first | (show wpPlan _ _ _ _ (.early 0 _) _ _) | (show wpPlan _ _ _ _ (.early 2 _) _ _))); (first | (refine wpPlan_skipE rfl rfl ?_; (try go_simp)) | (refine wpPlan_early rfl rfl ?_; intro K hK; (first | go_big_quiet_op); (first | go_big_quiet_on | (refine ⟨_, fun _ => rfl, ?_⟩; go_big_quiet_on)))))
      | ((with_reducible ((show wpPlan _ _ _ _ (.early 1 _) _ _))); (first | (refine wpPlan_skipE rfl rfl ?_; (try go_simp)) | (refine wpPlan_early rfl rfl ?_; intro K hK; (first | ((refine quiet_loadA_st  _ _ rfl rfl tk ag_impl_Memory lit rfl ?_); (try go_simp)) | go_big_quiet_op); (first | go_big_quiet_on | (refine ⟨_, fun _ => rfl, ?_⟩; go_big_quiet_on)))))
      | ((with_reducible (first | (show wpPlan _ _ _ _ (.early 3 _) _ _) | (show wpPlan _ _ _ _ (.early 6 _) _ _))); (first | (refine wpPlan_skipE rfl rfl ?_; (try go_simp)) | (refine wpPlan_early rfl rfl ?_; intro K hK; (first | ((refine quiet_loadA_st  _ _ rfl rfl tk ag_impl_CompletionQueue lit rfl ?_); (try go_simp)) | go_big_quiet_op); (first | go_big_quiet_on | (refine ⟨_, fun _ => rfl, ?_⟩; go_big_quiet_on)))))
      | ((with_reducible ((show wpPlan _ _ _ _ (.early 5 _) _ _))); (first | (refine wpPlan_skipE rfl rfl ?_; (try go_simp)) | (refine wpPlan_early rfl rfl ?_; intro K hK; (first | ((refine quiet_loadA_st  _ _ rfl rfl tk ag_impl_Completion lit rfl ?_); (try go_simp)) | go_big_quiet_op); (first | go_big_quiet_on | (refine ⟨_, fun _ => rfl, ?_⟩; go_big_quiet_on)))))
      | ((with_reducible ((show wpOne _ _ _ _ 4 1 _ _ _))); (first | (refine wpOne_skip rfl rfl ?_; (try go_simp)) | (refine wpOne_1 rfl rfl ?_; intro K hK; go_simp; (first | (go_at_call 57; (with_reducible refine (slotOfCount_any b s c _ HQ.out).mono ?_); rintro e w' ⟨rfl, hx⟩; replace HS := HS.grow hx; clear hx)); (try go_simp); refine hK _ _ ?_ ?_; (focus (exact stw HS)); clear hK K)))
      | ((with_reducible ((show wpOne _ _ _ _ 7 1 _ _ _))); (first | (refine wpOne_skip rfl rfl ?_; (try go_simp)) | (refine wpOne_1 rfl rfl ?_; intro K hK; go_simp; (first | (go_at_call 59; (with_reducible refine (phaseOf_any b s c _).mono ?_); rintro e w' ⟨rfl, hx⟩; replace HS := HS.grow hx; clear hx)); (try go_simp); refine hK _ _ ?_ ?_; (focus (exact stw HS)); clear hK K)))
      | ((with_reducible ((show wpOne _ _ _ _ 8 1 _ _ _))); (first | (refine wpOne_skip rfl rfl ?_; (try go_simp)) | (refine wpOne_1 rfl rfl ?_; intro K hK; go_simp; (first | (go_at_call 58; (with_reducible refine (encode_t x1 x2 x3 x4 x5 _ HX.out HP.out _).mono ?_); rintro e w' ⟨rfl, hx⟩; replace HS := HS.grow hx; clear hx)); (try go_simp); refine hK _ _ ?_ ?_; (focus (exact stw HS)); clear hK K)))
      | ((with_reducible ((show wpOne _ _ _ _ 9 1 _ _ _))); (first | (refine wpOne_skip rfl rfl ?_; (try go_simp)) | (refine wpOne_1 rfl rfl ?_; intro K hK; go_simp; (first | (go_at_call 56; (with_reducible refine (dmaWrite_any _ _ l ps d (slotC b s c) (encC x1 x2 x3 x4 x5 (phaseC s c)) _ (k1.ex HS.ex) (k2.ex HS.ex) hl hd.out HSI.out HES.out HD.out).mono ?_); rintro e w' ⟨A7, c7, rfl, ho, hx⟩; replace HS := HS.own ho hx; clear ho hx)); (try go_simp); refine hK _ _ ?_ ?_; (focus (exact stw HS)); clear hK K)))
      | ((with_reducible ((show wpPlan _ _ _ _ (.pure _ _) _ _))); (first | (refine wpPlan_skipP rfl rfl ?_; (try go_simp)) | (refine wpPlan_pure rfl rfl ?_; intro K hK; go_big_quiet_op; (first | go_big_quiet_on | (refine ⟨_, fun _ => rfl, ?_⟩; go_big_quiet_on)))))
      | ((with_reducible ((show wpOne _ _ _ _ 13 1 _ _ _))); (first | (refine wpOne_skip rfl rfl ?_; (try go_simp)) | (refine wpOne_1 rfl rfl ?_; intro K hK; (first | (refine wp_alloc_st  _ rfl zc_impl_Memory HS ?_; clear HS; intro w13 b13 hb13 HS)); (try go_simp); refine hK _ _ ?_ ?_; (focus (exact stw HS)); clear hK K)))
      | ((with_reducible ((show wpOne _ _ _ _ 14 2 _ _ _))); (first | (refine wpOne_skip rfl rfl ?_; (try go_simp)) | (refine wpOne_2 rfl rfl ?_; intro K hK; (first | (refine wp_store_st  _ _ _ rfl rfl (v := .agg (List.toArray _)) rfl HS tk sz_impl_Memory vcs rfx rfx (by simp) ?_ rfl; clear HS; intro w3_14 hz3_14 HS; simp only [nicL, Value.cells, List.append_nil] at HS) | (refine wp_store_st  _ _ _ rfl rfl (v := .agg _) rfl HS tk sz_impl_Memory vcs rfx rfx (by simp) ?_ rfl; clear HS; intro w3_14 hz3_14 HS; simp only [nicL, Value.cells, List.append_nil] at HS)); (try go_simp); refine hK _ _ ?_; clear hK K)))
      | ((with_reducible (first | (show wpOne _ _ _ _ 15 2 _ _ _) | (show wpOne _ _ _ _ 10 2 _ _ _))); (first | (refine wpOne_skip rfl rfl ?_; (try go_simp)) | (refine wpOne_2 rfl rfl ?_; intro K hK; go_simp; refine hK _ _ ?_; clear hK K)))
      | ((with_reducible ((show wpOne _ _ _ _ 9 2 _ _ _))); (first | (refine wpOne_skip rfl rfl ?_; (try go_simp)) | (refine wpOne_2 rfl rfl ?_; intro K hK; go_simp; (first | (go_at_call 56; (with_reducible refine (dmaWrite_any _ _ l ps d (slotC b s c) (encC x1 x2 x3 x4 x5 (phaseC s c)) _ (k1.ex HS.ex) (k2.ex HS.ex) hl hd.out HSI.out HES.out HD.out).mono ?_); rintro e w' ⟨A7, c7, rfl, ho, hx⟩; replace HS := HS.own ho hx; clear ho hx)); (try go_simp); refine hK _ _ ?_; clear hK K)))
      | (with_reducible refine wpPlan_done ?_))
    all_goals
      go_wp2_with (first
            | ((with_reducible (show wpList _ _ _ (Oper.mk (some 44) (Op.load _ _) _ _ _ _ :: _) _ _)); refine wpList_loadS_st (o := ⟨some 44, .load _ _, _, _, _, _⟩) rfl _ _ rfl rfl HS tk sc_int rfx ?_)
            | ((with_reducible (show wpList _ _ _ (Oper.mk (some 47) (Op.load _ _) _ _ _ _ :: _) _ _)); refine wpList_loadS_st (o := ⟨some 47, .load _ _, _, _, _, _⟩) rfl _ _ rfl rfl HS tk sc_int rfx ?_)
            | ((with_reducible (show wpList _ _ _ (Oper.mk none (Op.store _ (.tmp 50) _) _ _ _ _ :: _) _ _)); refine wpList_store_st (o := ⟨none, .store _ (.tmp 50) _, _, _, _, _⟩) rfl _ _ _ rfl rfl (v := .int .i64 _) rfl HS tk sz_int vcs rfx rfx (by simp) ?_ rfl; clear HS; intro w6_8 hz6_8 HS; simp only [nicL, Value.cells, List.append_nil] at HS))
      refine wp_region_plan_st (HS.arr (show Arr _ [rowA b13 _ _, rowA b8 _ _] from ary)) (.early 0 (.early 1 (.forced 2 1 (.forced 3 2 (.forced 4 2 .done))))) (by kernel_rfl) (by as_aux_lemma => kernel_rfl) ?_
      intro hne
      replace HS := HS.drew
      try go_simp
      repeat' (first
        | (with_reducible refine wpPlan_forced ?_)
        | ((with_reducible ((show wpPlan _ _ _ _ (.early 0 _) _ _))); (first | (refine wpPlan_skipE rfl rfl ?_; (try go_simp)) | (refine wpPlan_early rfl rfl ?_; intro K hK; (first | ((refine quiet_loadA_st  _ _ rfl rfl tk ag_impl_Memory lit rfl ?_); (try go_simp)) | go_big_quiet_op); (first | go_big_quiet_on | (refine ⟨_, fun _ => rfl, ?_⟩; go_big_quiet_on)))))
        | ((with_reducible ((show wpPlan _ _ _ _ (.early 1 _) _ _))); (first | (refine wpPlan_skipE rfl rfl ?_; (try go_simp)) | (refine wpPlan_early rfl rfl ?_; intro K hK; (first | ((refine quiet_loadA_st  _ _ rfl rfl tk ag_impl_CompletionQueue lit rfl ?_); (try go_simp)) | go_big_quiet_op); (first | go_big_quiet_on | (refine ⟨_, fun _ => rfl, ?_⟩; go_big_quiet_on)))))
        | ((with_reducible ((show wpOne _ _ _ _ 2 1 _ _ _))); (first | (refine wpOne_skip rfl rfl ?_; (try go_simp)) | (refine wpOne_1 rfl rfl ?_; intro K hK; (first | (refine wp_store_st  _ _ _ rfl rfl (v := .agg (List.toArray _)) rfl HS tk sz_impl_Memory vcs rfx rfx (by simp) ?_ rfl; clear HS; intro w7_2 hz7_2 HS; simp only [nicL, Value.cells, List.append_nil] at HS) | (refine wp_store_st  _ _ _ rfl rfl (v := .agg _) rfl HS tk sz_impl_Memory vcs rfx rfx (by simp) ?_ rfl; clear HS; intro w7_2 hz7_2 HS; simp only [nicL, Value.cells, List.append_nil] at HS)); (try go_simp); refine hK _ _ ?_ ?_; (focus (exact stw HS)); clear hK K)))
        | ((with_reducible ((show wpOne _ _ _ _ 3 2 _ _ _))); (first | (refine wpOne_skip rfl rfl ?_; (try go_simp)) | (refine wpOne_2 rfl rfl ?_; intro K hK; (first | (refine wp_store_st  _ _ _ rfl rfl (v := .agg (List.toArray _)) rfl HS tk sz_impl_CompletionQueue vcs rfx rfx (by simp) ?_ rfl; clear HS; intro w7_3 hz7_3 HS; simp only [nicL, Value.cells, List.append_nil] at HS) | (refine wp_store_st  _ _ _ rfl rfl (v := .agg _) rfl HS tk sz_impl_CompletionQueue vcs rfx rfx (by simp) ?_ rfl; clear HS; intro w7_3 hz7_3 HS; simp only [nicL, Value.cells, List.append_nil] at HS)); (try go_simp); refine hK _ _ ?_; clear hK K)))
        | ((with_reducible ((show wpOne _ _ _ _ 4 2 _ _ _))); (first | (refine wpOne_skip rfl rfl ?_; (try go_simp)) | (refine wpOne_2 rfl rfl ?_; intro K hK; go_simp; refine hK _ _ ?_; clear hK K)))
        | (with_reducible refine wpPlan_done ?_))
      go_wp2
      rw [HM.out]
      refine bodyPost_rets rfx (RVs.cell rfx HS tk ag_impl_Memory rfx (RVs.cell rfx HS tk ag_impl_CompletionQueue rfx (RVs.tmp rfx RVs.nil))) (by simp) rfx ?_
      exact retPut HS tk

set_option maxRecDepth 100000 in
set_option maxHeartbeats 4000000 in
theorem putCompletionS_any (v1 v2 : Value) (l : List Mp) (ps : Pg) (d b s c x1 x2 x3 x4 x5 : Int) (w : World) (k1 : Holds w l [v1]) (k2 : Holds w ps [v2]) (hl : ps.length ≤ 1099511627776) (hd : i64ok d) {qs : Pg} {c2 : Int} {ok : Bool} (hr : (qs, c2, ok) = putC l ps d b s c x1 x2 x3 x4 x5) :
    Calls Try.prog 26 #[v1, .agg #[v2], .int .i64 d, .agg #[.int .i64 b, .int .i64 s, .int .i64 c], .agg #[.int .i64 x1, .int .i64 x2, .int .i64 x3, .int .i64 x4, .int .i64 x5]] w (RetPut w qs b s c2 ok) := by
  obtain ⟨AA, cap, rfl, z1, z2⟩ := k1.fl
  unfold maxLen at z2
  obtain ⟨BB, cap2, rfl, y1, y2⟩ := k2.fl
  unfold maxLen at y2
  replace hd := hid hd
  cases hq : queueOkB b s c
  case false =>
    have HQ := hid hq
    unfold putC at hr
    rw [hq, if_neg (by decide)] at hr
    simp only [Prod.mk.injEq] at hr
    obtain ⟨e1, e2, rfl⟩ := hr
    replace e1 := e1.symm
    subst e1
    replace e2 := e2.symm
    subst e2
    clear hq
    have HS := St.start w
    go_enter Try.func26, Try.ntmps26
    go_wp2_with (first
          | (go_at_call 65; (with_reducible refine (queueOkS_any b s c _).mono ?_); rintro e w' ⟨rfl, hx⟩; rw [HQ.out]; replace HS := HS.grow hx; clear hx)
          | ((with_reducible (show wpList _ _ _ (Oper.mk (some 6) (Op.box _ _) _ _ _ _ :: _) _ _)); refine wpList_box_st (o := ⟨some 6, .box _ _, _, _, _, _⟩) rfl _ _ rfl (v := .agg (List.toArray _)) rfl HS ?_; clear HS; intro w6 b6 hb6 HS; simp only [Value.cells] at HS)
          | ((with_reducible (show wpList _ _ _ (Oper.mk (some 8) (Op.box _ _) _ _ _ _ :: _) _ _)); refine wpList_box_st (o := ⟨some 8, .box _ _, _, _, _, _⟩) rfl _ _ rfl (v := .agg (List.toArray _)) rfl HS ?_; clear HS; intro w8 b8 hb8 HS; simp only [Value.cells] at HS)
          | ((with_reducible (show wpList _ _ _ (Oper.mk (some 9) (Op.box _ _) _ _ _ _ :: _) _ _)); refine wpList_box_st (o := ⟨some 9, .box _ _, _, _, _, _⟩) rfl _ _ rfl (v := .agg (List.toArray _)) rfl HS ?_; clear HS; intro w9 b9 hb9 HS; simp only [Value.cells] at HS)
          | ((with_reducible (show wpList _ _ _ (Oper.mk (some 10) (Op.alloc _) _ _ _ _ :: _) _ _)); refine wpList_alloc_st (o := ⟨some 10, .alloc _, _, _, _, _⟩) rfl _ rfl zc_impl_Memory HS ?_; clear HS; intro w10 b10 hb10 HS)
          | ((with_reducible (show wpList _ _ _ (Oper.mk (some 11) (Op.alloc _) _ _ _ _ :: _) _ _)); refine wpList_alloc_st (o := ⟨some 11, .alloc _, _, _, _, _⟩) rfl _ rfl zc_impl_CompletionQueue HS ?_; clear HS; intro w11 b11 hb11 HS)
          | ((with_reducible (show wpList _ _ _ (Oper.mk (some 15) (Op.load _ _) _ _ _ _ :: _) _ _)); refine wpList_loadA_st (o := ⟨some 15, .load _ _, _, _, _, _⟩) rfl _ _ rfl rfl HS tk ag_impl_CompletionQueue lit rfl ?_))
    refine wp_region_plan_st (HS.arr (show Arr _ [rowA b8 _ _, rowA b6 _ _] from ary)) (.early 0 (.early 2 (.forced 1 1 (.forced 3 1 (.forced 4 2 (.forced 5 2 .done)))))) (by kernel_rfl) (by as_aux_lemma => kernel_rfl) ?_
    intro hne
    replace HS := HS.drew
    try go_simp
    repeat' (first
      | (with_reducible refine wpPlan_forced ?_)
      | ((with_reducible ((show wpPlan _ _ _ _ (.early 0 _) _ _))); (first | (refine wpPlan_skipE rfl rfl ?_; (try go_simp)) | (refine wpPlan_early rfl rfl ?_; intro K hK; (first | ((refine quiet_loadA_st  _ _ rfl rfl tk ag_impl_Memory lit rfl ?_); (try go_simp)) | go_big_quiet_op); (first | go_big_quiet_on | (refine ⟨_, fun _ => rfl, ?_⟩; go_big_quiet_on)))))
      | ((with_reducible ((show wpPlan _ _ _ _ (.early 2 _) _ _))); (first | (refine wpPlan_skipE rfl rfl ?_; (try go_simp)) | (refine wpPlan_early rfl rfl ?_; intro K hK; (first | ((refine quiet_loadA_st  _ _ rfl rfl tk ag_impl_CompletionQueue lit rfl ?_); (try go_simp)) | go_big_quiet_op); (first | go_big_quiet_on | (refine ⟨_, fun _ => rfl, ?_⟩; go_big_quiet_on)))))
      | ((with_reducible ((show wpOne _ _ _ _ 1 1 _ _ _))); (first | (refine wpOne_skip rfl rfl ?_; (try go_simp)) | (refine wpOne_1 rfl rfl ?_; intro K hK; go_simp; (first | (go_at_call 74; (with_reducible refine (l16CopyS_any _ ps _ (k2.ex HS.ex) hl).mono ?_); rintro e w' ⟨A0, c0, rfl, ho, hx⟩; replace HS := HS.own ho hx; clear ho hx)); (try go_simp); refine hK _ _ ?_ ?_; (focus (exact stw HS)); clear hK K)))
      | ((with_reducible ((show wpOne _ _ _ _ 3 1 _ _ _))); (first | (refine wpOne_skip rfl rfl ?_; (try go_simp)) | (refine wpOne_1 rfl rfl ?_; intro K hK; (first | (refine wp_store_st  _ _ _ rfl rfl (v := .agg (List.toArray _)) rfl HS tk sz_impl_Memory vcs rfx rfx (by simp) ?_ rfl; clear HS; intro w2_3 hz2_3 HS; simp only [nicL, Value.cells, List.append_nil] at HS) | (refine wp_store_st  _ _ _ rfl rfl (v := .agg _) rfl HS tk sz_impl_Memory vcs rfx rfx (by simp) ?_ rfl; clear HS; intro w2_3 hz2_3 HS; simp only [nicL, Value.cells, List.append_nil] at HS)); (try go_simp); refine hK _ _ ?_ ?_; (focus (exact stw HS)); clear hK K)))
      | ((with_reducible ((show wpOne _ _ _ _ 4 2 _ _ _))); (first | (refine wpOne_skip rfl rfl ?_; (try go_simp)) | (refine wpOne_2 rfl rfl ?_; intro K hK; (first | (refine wp_store_st  _ _ _ rfl rfl (v := .agg (List.toArray _)) rfl HS tk sz_impl_CompletionQueue vcs rfx rfx (by simp) ?_ rfl; clear HS; intro w2_4 hz2_4 HS; simp only [nicL, Value.cells, List.append_nil] at HS) | (refine wp_store_st  _ _ _ rfl rfl (v := .agg _) rfl HS tk sz_impl_CompletionQueue vcs rfx rfx (by simp) ?_ rfl; clear HS; intro w2_4 hz2_4 HS; simp only [nicL, Value.cells, List.append_nil] at HS)); (try go_simp); refine hK _ _ ?_; clear hK K)))
      | ((with_reducible ((show wpOne _ _ _ _ 5 2 _ _ _))); (first | (refine wpOne_skip rfl rfl ?_; (try go_simp)) | (refine wpOne_2 rfl rfl ?_; intro K hK; go_simp; refine hK _ _ ?_; clear hK K)))
      | (with_reducible refine wpPlan_done ?_))
    go_wp2
    refine bodyPost_rets rfx (RVs.cell rfx HS tk ag_impl_Memory rfx (RVs.cell rfx HS tk ag_impl_CompletionQueue rfx (RVs.tmp rfx RVs.nil))) (by simp) rfx ?_
    exact retPut HS tk
  case true =>
  cases hx : completionOkB x1 x2 x3 x4 x5
  case false =>
    have HQ := hid hq
    have HX := hid hx
    unfold putC at hr
    rw [hq, if_pos rfl, hx, if_neg (by decide)] at hr
    simp only [Prod.mk.injEq] at hr
    obtain ⟨e1, e2, rfl⟩ := hr
    replace e1 := e1.symm
    subst e1
    replace e2 := e2.symm
    subst e2
    clear hq hx
    have HS := St.start w
    go_enter Try.func26, Try.ntmps26
    go_wp2_with (first
          | (go_at_call 65; (with_reducible refine (queueOkS_any b s c _).mono ?_); rintro e w' ⟨rfl, hx⟩; rw [HQ.out]; replace HS := HS.grow hx; clear hx)
          | (go_at_call 73; (with_reducible refine (completionOkS_v HX.out _).mono ?_); rintro e w' ⟨rfl, hx⟩; replace HS := HS.grow hx; clear hx)
          | ((with_reducible (show wpList _ _ _ (Oper.mk (some 6) (Op.box _ _) _ _ _ _ :: _) _ _)); refine wpList_box_st (o := ⟨some 6, .box _ _, _, _, _, _⟩) rfl _ _ rfl (v := .agg (List.toArray _)) rfl HS ?_; clear HS; intro w6 b6 hb6 HS; simp only [Value.cells] at HS)
          | ((with_reducible (show wpList _ _ _ (Oper.mk (some 8) (Op.box _ _) _ _ _ _ :: _) _ _)); refine wpList_box_st (o := ⟨some 8, .box _ _, _, _, _, _⟩) rfl _ _ rfl (v := .agg (List.toArray _)) rfl HS ?_; clear HS; intro w8 b8 hb8 HS; simp only [Value.cells] at HS)
          | ((with_reducible (show wpList _ _ _ (Oper.mk (some 9) (Op.box _ _) _ _ _ _ :: _) _ _)); refine wpList_box_st (o := ⟨some 9, .box _ _, _, _, _, _⟩) rfl _ _ rfl (v := .agg (List.toArray _)) rfl HS ?_; clear HS; intro w9 b9 hb9 HS; simp only [Value.cells] at HS)
          | ((with_reducible (show wpList _ _ _ (Oper.mk (some 10) (Op.alloc _) _ _ _ _ :: _) _ _)); refine wpList_alloc_st (o := ⟨some 10, .alloc _, _, _, _, _⟩) rfl _ rfl zc_impl_Memory HS ?_; clear HS; intro w10 b10 hb10 HS)
          | ((with_reducible (show wpList _ _ _ (Oper.mk (some 11) (Op.alloc _) _ _ _ _ :: _) _ _)); refine wpList_alloc_st (o := ⟨some 11, .alloc _, _, _, _, _⟩) rfl _ rfl zc_impl_CompletionQueue HS ?_; clear HS; intro w11 b11 hb11 HS)
          | ((with_reducible (show wpList _ _ _ (Oper.mk (some 15) (Op.load _ _) _ _ _ _ :: _) _ _)); refine wpList_loadA_st (o := ⟨some 15, .load _ _, _, _, _, _⟩) rfl _ _ rfl rfl HS tk ag_impl_CompletionQueue lit rfl ?_)
          | ((with_reducible (show wpList _ _ _ (Oper.mk (some 19) (Op.load _ _) _ _ _ _ :: _) _ _)); refine wpList_loadA_st (o := ⟨some 19, .load _ _, _, _, _, _⟩) rfl _ _ rfl rfl HS tk ag_impl_Completion lit rfl ?_))
    refine wp_region_plan_st (HS.arr (show Arr _ [rowA b8 _ _, rowA b6 _ _] from ary)) (.early 0 (.early 2 (.forced 1 1 (.forced 3 1 (.forced 4 2 (.forced 5 2 .done)))))) (by kernel_rfl) (by as_aux_lemma => kernel_rfl) ?_
    intro hne
    replace HS := HS.drew
    try go_simp
    repeat' (first
      | (with_reducible refine wpPlan_forced ?_)
      | ((with_reducible ((show wpPlan _ _ _ _ (.early 0 _) _ _))); (first | (refine wpPlan_skipE rfl rfl ?_; (try go_simp)) | (refine wpPlan_early rfl rfl ?_; intro K hK; (first | ((refine quiet_loadA_st  _ _ rfl rfl tk ag_impl_Memory lit rfl ?_); (try go_simp)) | go_big_quiet_op); (first | go_big_quiet_on | (refine ⟨_, fun _ => rfl, ?_⟩; go_big_quiet_on)))))
      | ((with_reducible ((show wpPlan _ _ _ _ (.early 2 _) _ _))); (first | (refine wpPlan_skipE rfl rfl ?_; (try go_simp)) | (refine wpPlan_early rfl rfl ?_; intro K hK; (first | ((refine quiet_loadA_st  _ _ rfl rfl tk ag_impl_CompletionQueue lit rfl ?_); (try go_simp)) | go_big_quiet_op); (first | go_big_quiet_on | (refine ⟨_, fun _ => rfl, ?_⟩; go_big_quiet_on)))))
      | ((with_reducible ((show wpOne _ _ _ _ 1 1 _ _ _))); (first | (refine wpOne_skip rfl rfl ?_; (try go_simp)) | (refine wpOne_1 rfl rfl ?_; intro K hK; go_simp; (first | (go_at_call 74; (with_reducible refine (l16CopyS_any _ ps _ (k2.ex HS.ex) hl).mono ?_); rintro e w' ⟨A0, c0, rfl, ho, hx⟩; replace HS := HS.own ho hx; clear ho hx)); (try go_simp); refine hK _ _ ?_ ?_; (focus (exact stw HS)); clear hK K)))
      | ((with_reducible ((show wpOne _ _ _ _ 3 1 _ _ _))); (first | (refine wpOne_skip rfl rfl ?_; (try go_simp)) | (refine wpOne_1 rfl rfl ?_; intro K hK; (first | (refine wp_store_st  _ _ _ rfl rfl (v := .agg (List.toArray _)) rfl HS tk sz_impl_Memory vcs rfx rfx (by simp) ?_ rfl; clear HS; intro w2_3 hz2_3 HS; simp only [nicL, Value.cells, List.append_nil] at HS) | (refine wp_store_st  _ _ _ rfl rfl (v := .agg _) rfl HS tk sz_impl_Memory vcs rfx rfx (by simp) ?_ rfl; clear HS; intro w2_3 hz2_3 HS; simp only [nicL, Value.cells, List.append_nil] at HS)); (try go_simp); refine hK _ _ ?_ ?_; (focus (exact stw HS)); clear hK K)))
      | ((with_reducible ((show wpOne _ _ _ _ 4 2 _ _ _))); (first | (refine wpOne_skip rfl rfl ?_; (try go_simp)) | (refine wpOne_2 rfl rfl ?_; intro K hK; (first | (refine wp_store_st  _ _ _ rfl rfl (v := .agg (List.toArray _)) rfl HS tk sz_impl_CompletionQueue vcs rfx rfx (by simp) ?_ rfl; clear HS; intro w2_4 hz2_4 HS; simp only [nicL, Value.cells, List.append_nil] at HS) | (refine wp_store_st  _ _ _ rfl rfl (v := .agg _) rfl HS tk sz_impl_CompletionQueue vcs rfx rfx (by simp) ?_ rfl; clear HS; intro w2_4 hz2_4 HS; simp only [nicL, Value.cells, List.append_nil] at HS)); (try go_simp); refine hK _ _ ?_; clear hK K)))
      | ((with_reducible ((show wpOne _ _ _ _ 5 2 _ _ _))); (first | (refine wpOne_skip rfl rfl ?_; (try go_simp)) | (refine wpOne_2 rfl rfl ?_; intro K hK; go_simp; refine hK _ _ ?_; clear hK K)))
      | (with_reducible refine wpPlan_done ?_))
    go_wp2
    refine bodyPost_rets rfx (RVs.cell rfx HS tk ag_impl_Memory rfx (RVs.cell rfx HS tk ag_impl_CompletionQueue rfx (RVs.tmp rfx RVs.nil))) (by simp) rfx ?_
    exact retPut HS tk
  case true =>
  have HQ := hid hq
  have HX := hid hx
  obtain ⟨sb0, sb1⟩ := slotC_bd hq
  obtain ⟨ph0, ph1⟩ := phaseC_bd s c
  have HP : Hid (inB (phaseC s c) 0 1 = true) := hid (inB_iff.2 ⟨ph0, ph1⟩)
  have HSI : Hid (i64ok (b + 16 * (c % s))) := hid (by first | (unfold i64ok; omega) | (unfold slotC at sb0 sb1; unfold i64ok; omega))
  have HES : Hid ((encC x1 x2 x3 x4 x5 (phaseC s c)).size ≤ 9223372036854775807) := hid (by have := encC_size x1 x2 x3 x4 x5 (phaseC s c); omega)
  unfold putC at hr
  rw [hq, if_pos rfl, hx, if_pos rfl] at hr
  obtain ⟨b0, b1, hs, c0, c1⟩ := queueOk_facts hq
  have q1 : c.tmod s = c % s := Int.tmod_eq_emod_of_nonneg c0
  have m0 := Int.emod_nonneg c (show s ≠ 0 by omega)
  have m1 := Int.emod_lt_of_pos c (show 0 < s by omega)
  have sz : s ≠ 0 := by omega
  have s2 : s ≤ 16 := by omega
  have w1 : IntKind.i64.wrap (c % s * 16) = c % s * 16 := IntWalk.i64_in _ (by omega)
  have w2 : IntKind.i64.wrap (b + c % s * 16) = b + c % s * 16 := IntWalk.i64_in _ (by omega)
  have w3 : IntKind.i64.wrap (16 * (c % s)) = 16 * (c % s) := IntWalk.i64_in _ (by omega)
  have w4 : IntKind.i64.wrap (b + 16 * (c % s)) = b + 16 * (c % s) := IntWalk.i64_in _ (by omega)
  have sz2 : (s == 0) = false := by simp [sz]

  skip
  obtain ⟨⟨rs, k⟩, hD⟩ : ∃ r, r = dmaWF l ps d (slotC b s c) (encC x1 x2 x3 x4 x5 (phaseC s c)) true := ⟨_, rfl⟩
  rw [← hD] at hr
  have HD : Hid ((rs, k) = dmaWF l ps d (b + 16 * (c % s)) (encC x1 x2 x3 x4 x5 (phaseC s c)) true) := hid (by first | exact hD | (rw [show b + 16 * (c % s) = slotC b s c from by unfold slotC; omega]; exact hD))
  have hlen := dmaWF_len hD
  clear hq hx sb0 sb1 ph0 ph1 hs
  cases k
  case false =>
    simp only [Prod.mk.injEq] at hr
    obtain ⟨e1, e2, rfl⟩ := hr
    have e3 := dmaWF_same hD
    replace e3 := e3.symm
    subst e3
    replace e1 := e1.symm
    subst e1
    replace e2 := e2.symm
    subst e2
    clear hD hlen
    have HS := St.start w
    go_enter Try.func26, Try.ntmps26
    go_wp2_with (first
          | (go_at_call 65; (with_reducible refine (queueOkS_any b s c _).mono ?_); rintro e w' ⟨rfl, hx⟩; rw [HQ.out]; replace HS := HS.grow hx; clear hx)
          | (go_at_call 73; (with_reducible refine (completionOkS_v HX.out _).mono ?_); rintro e w' ⟨rfl, hx⟩; replace HS := HS.grow hx; clear hx)
          | ((with_reducible (show wpList _ _ _ (Oper.mk (some 6) (Op.box _ _) _ _ _ _ :: _) _ _)); refine wpList_box_st (o := ⟨some 6, .box _ _, _, _, _, _⟩) rfl _ _ rfl (v := .agg (List.toArray _)) rfl HS ?_; clear HS; intro w6 b6 hb6 HS; simp only [Value.cells] at HS)
          | ((with_reducible (show wpList _ _ _ (Oper.mk (some 8) (Op.box _ _) _ _ _ _ :: _) _ _)); refine wpList_box_st (o := ⟨some 8, .box _ _, _, _, _, _⟩) rfl _ _ rfl (v := .agg (List.toArray _)) rfl HS ?_; clear HS; intro w8 b8 hb8 HS; simp only [Value.cells] at HS)
          | ((with_reducible (show wpList _ _ _ (Oper.mk (some 9) (Op.box _ _) _ _ _ _ :: _) _ _)); refine wpList_box_st (o := ⟨some 9, .box _ _, _, _, _, _⟩) rfl _ _ rfl (v := .agg (List.toArray _)) rfl HS ?_; clear HS; intro w9 b9 hb9 HS; simp only [Value.cells] at HS)
          | ((with_reducible (show wpList _ _ _ (Oper.mk (some 10) (Op.alloc _) _ _ _ _ :: _) _ _)); refine wpList_alloc_st (o := ⟨some 10, .alloc _, _, _, _, _⟩) rfl _ rfl zc_impl_Memory HS ?_; clear HS; intro w10 b10 hb10 HS)
          | ((with_reducible (show wpList _ _ _ (Oper.mk (some 11) (Op.alloc _) _ _ _ _ :: _) _ _)); refine wpList_alloc_st (o := ⟨some 11, .alloc _, _, _, _, _⟩) rfl _ rfl zc_impl_CompletionQueue HS ?_; clear HS; intro w11 b11 hb11 HS)
          | ((with_reducible (show wpList _ _ _ (Oper.mk (some 15) (Op.load _ _) _ _ _ _ :: _) _ _)); refine wpList_loadA_st (o := ⟨some 15, .load _ _, _, _, _, _⟩) rfl _ _ rfl rfl HS tk ag_impl_CompletionQueue lit rfl ?_)
          | ((with_reducible (show wpList _ _ _ (Oper.mk (some 19) (Op.load _ _) _ _ _ _ :: _) _ _)); refine wpList_loadA_st (o := ⟨some 19, .load _ _, _, _, _, _⟩) rfl _ _ rfl rfl HS tk ag_impl_Completion lit rfl ?_))
    refine wp_region_plan_st HS (.early 0 (.early 1 (.early 2 (.early 3 (.early 4 (.early 5 (.early 6 (.early 7 (.early 8 (.early 9 (.early 10 (.early 11 (.early 12 (.early 13 (.fork 14 1 (.fork 15 1 (.fork 16 1 (.pure 17 (.pure 18 (.pure 19 (.forced 20 1 (.forced 21 2 (.forced 22 2 .done)))))) 20 1 (.forced 16 2 (.forced 17 2 (.pure 18 (.pure 19 (.forced 21 2 (.forced 22 2 .done))))))) 20 1 (.forced 15 1 (.forced 16 2 (.forced 17 2 (.pure 18 (.pure 19 (.forced 21 2 (.forced 22 2 .done)))))))) 20 1 (.forced 14 1 (.forced 15 1 (.forced 16 2 (.forced 17 2 (.pure 18 (.pure 19 (.forced 21 2 (.forced 22 2 .done))))))))))))))))))))))) (by kernel_rfl) (by as_aux_lemma => kernel_rfl) ?_
    intro hne
    replace HS := HS.drew
    try go_simp
    repeat' (first
      | (with_reducible refine wpPlan_fork ?_ ?_)
      | (with_reducible refine wpPlan_forced ?_)
      | ((with_reducible (first | (show wpPlan _ _ _ _ (.early 0 _) _ _) | (show wpPlan _ _ _ _ (.early 2 _) _ _) | (show wpPlan _ _ _ _ (.early 3 _) _ _) | (show wpPlan _ _ _ _ (.early 5 _) _ _) | (show wpPlan _ _ _ _ (.early 7 _) _ _) | (show wpPlan _ _ _ _ (.early 9 _) _ _) | (show wpPlan _ _ _ _ (.early 10 _) _ _) | (show wpPlan _ _ _ _ (.early 11 _) _ _))); (first | (refine wpPlan_skipE rfl rfl ?_; (try go_simp)) | (refine wpPlan_early rfl rfl ?_; intro K hK; (first | go_big_quiet_op); (first | go_big_quiet_on | (refine ⟨_, fun _ => rfl, ?_⟩; go_big_quiet_on)))))
      | ((with_reducible ((show wpPlan _ _ _ _ (.early 1 _) _ _))); (first | (refine wpPlan_skipE rfl rfl ?_; (try go_simp)) | (refine wpPlan_early rfl rfl ?_; intro K hK; (first | ((refine quiet_loadA_st  _ _ rfl rfl tk ag_impl_Memory lit rfl ?_); (try go_simp)) | go_big_quiet_op); (first | go_big_quiet_on | (refine ⟨_, fun _ => rfl, ?_⟩; go_big_quiet_on)))))
      | ((with_reducible (first | (show wpPlan _ _ _ _ (.early 4 _) _ _) | (show wpPlan _ _ _ _ (.early 6 _) _ _) | (show wpPlan _ _ _ _ (.early 8 _) _ _))); (first | (refine wpPlan_skipE rfl rfl ?_; (try go_simp)) | (refine wpPlan_early rfl rfl ?_; intro K hK; (first | ((refine quiet_loadS_st  _ _ rfl rfl tk sc_int rfx ?_); (try go_simp)) | go_big_quiet_op); (first | go_big_quiet_on | (refine ⟨_, fun _ => rfl, ?_⟩; go_big_quiet_on)))))
      | ((with_reducible ((show wpPlan _ _ _ _ (.early 12 _) _ _))); (first | (refine wpPlan_skipE rfl rfl ?_; (try go_simp)) | (refine wpPlan_early rfl rfl ?_; intro K hK; (first | ((refine quiet_loadA_st  _ _ rfl rfl tk ag_impl_Completion lit rfl ?_); (try go_simp)) | go_big_quiet_op); (first | go_big_quiet_on | (refine ⟨_, fun _ => rfl, ?_⟩; go_big_quiet_on)))))
      | ((with_reducible ((show wpPlan _ _ _ _ (.early 13 _) _ _))); (first | (refine wpPlan_skipE rfl rfl ?_; (try go_simp)) | (refine wpPlan_early rfl rfl ?_; intro K hK; (first | ((refine quiet_loadA_st  _ _ rfl rfl tk ag_impl_CompletionQueue lit rfl ?_); (try go_simp)) | go_big_quiet_op); (first | go_big_quiet_on | (refine ⟨_, fun _ => rfl, ?_⟩; go_big_quiet_on)))))
      | ((with_reducible ((show wpOne _ _ _ _ 14 1 _ _ _))); (first | (refine wpOne_skip rfl rfl ?_; (try go_simp)) | (refine wpOne_1 rfl rfl ?_; intro K hK; go_simp; (first | (go_at_call 68; (with_reducible refine (l25Phase_any b s c _ HQ.out).mono ?_); rintro e w' ⟨rfl, hx⟩; replace HS := HS.grow hx; clear hx)); (try go_simp); refine hK _ _ ?_ ?_; (focus (exact stw HS)); clear hK K)))
      | ((with_reducible ((show wpOne _ _ _ _ 15 1 _ _ _))); (first | (refine wpOne_skip rfl rfl ?_; (try go_simp)) | (refine wpOne_1 rfl rfl ?_; intro K hK; go_simp; (first | (go_at_call 76; (with_reducible refine (encodeS_t x1 x2 x3 x4 x5 _ HX.out HP.out _).mono ?_); rintro e w' ⟨rfl, hx⟩; replace HS := HS.grow hx; clear hx)); (try go_simp); refine hK _ _ ?_ ?_; (focus (exact stw HS)); clear hK K)))
      | ((with_reducible ((show wpOne _ _ _ _ 16 1 _ _ _))); (first | (refine wpOne_skip rfl rfl ?_; (try go_simp)) | (refine wpOne_1 rfl rfl ?_; intro K hK; go_simp; (first | (go_at_call 75; (with_reducible refine (dmaWriteS_any _ _ l ps d (b + 16 * (c % s)) (encC x1 x2 x3 x4 x5 (phaseC s c)) _ (k1.ex HS.ex) (k2.ex HS.ex) hl hd.out HSI.out HES.out HD.out).mono ?_); rintro e w' ⟨A7, c7, rfl, ho, hx⟩; replace HS := HS.own ho hx; clear ho hx)); (try go_simp); refine hK _ _ ?_ ?_; (focus (exact stw HS)); clear hK K)))
      | ((with_reducible ((show wpPlan _ _ _ _ (.pure _ _) _ _))); (first | (refine wpPlan_skipP rfl rfl ?_; (try go_simp)) | (refine wpPlan_pure rfl rfl ?_; intro K hK; go_big_quiet_op; (first | go_big_quiet_on | (refine ⟨_, fun _ => rfl, ?_⟩; go_big_quiet_on)))))
      | ((with_reducible ((show wpOne _ _ _ _ 20 1 _ _ _))); (first | (refine wpOne_skip rfl rfl ?_; (try go_simp)) | (refine wpOne_1 rfl rfl ?_; intro K hK; (first | (refine wp_alloc_st  _ rfl zc_impl_Memory HS ?_; clear HS; intro w13 b13 hb13 HS)); (try go_simp); refine hK _ _ ?_ ?_; (focus (exact stw HS)); clear hK K)))
      | ((with_reducible ((show wpOne _ _ _ _ 21 2 _ _ _))); (first | (refine wpOne_skip rfl rfl ?_; (try go_simp)) | (refine wpOne_2 rfl rfl ?_; intro K hK; (first | (refine wp_store_st  _ _ _ rfl rfl (v := .agg (List.toArray _)) rfl HS tk sz_impl_Memory vcs rfx rfx (by simp) ?_ rfl; clear HS; intro w3_21 hz3_21 HS; simp only [nicL, Value.cells, List.append_nil] at HS) | (refine wp_store_st  _ _ _ rfl rfl (v := .agg _) rfl HS tk sz_impl_Memory vcs rfx rfx (by simp) ?_ rfl; clear HS; intro w3_21 hz3_21 HS; simp only [nicL, Value.cells, List.append_nil] at HS)); (try go_simp); refine hK _ _ ?_; clear hK K)))
      | ((with_reducible (first | (show wpOne _ _ _ _ 22 2 _ _ _) | (show wpOne _ _ _ _ 17 2 _ _ _))); (first | (refine wpOne_skip rfl rfl ?_; (try go_simp)) | (refine wpOne_2 rfl rfl ?_; intro K hK; go_simp; refine hK _ _ ?_; clear hK K)))
      | ((with_reducible ((show wpOne _ _ _ _ 16 2 _ _ _))); (first | (refine wpOne_skip rfl rfl ?_; (try go_simp)) | (refine wpOne_2 rfl rfl ?_; intro K hK; go_simp; (first | (go_at_call 75; (with_reducible refine (dmaWriteS_any _ _ l ps d (b + 16 * (c % s)) (encC x1 x2 x3 x4 x5 (phaseC s c)) _ (k1.ex HS.ex) (k2.ex HS.ex) hl hd.out HSI.out HES.out HD.out).mono ?_); rintro e w' ⟨A7, c7, rfl, ho, hx⟩; replace HS := HS.own ho hx; clear ho hx)); (try go_simp); refine hK _ _ ?_; clear hK K)))
      | (with_reducible refine wpPlan_done ?_))
    all_goals
      go_wp2
      refine wp_region_plan_st (HS.arr (show Arr _ [rowA b6 _ _, rowA b13 _ _, rowA b8 _ _] from ary)) (.early 0 (.early 2 (.forced 1 1 (.forced 3 1 (.forced 4 2 (.forced 5 2 .done)))))) (by kernel_rfl) (by as_aux_lemma => kernel_rfl) ?_
      intro hne
      replace HS := HS.drew
      try go_simp
      repeat' (first
        | (with_reducible refine wpPlan_forced ?_)
        | ((with_reducible ((show wpPlan _ _ _ _ (.early 0 _) _ _))); (first | (refine wpPlan_skipE rfl rfl ?_; (try go_simp)) | (refine wpPlan_early rfl rfl ?_; intro K hK; (first | ((refine quiet_loadA_st  _ _ rfl rfl tk ag_impl_Memory lit rfl ?_); (try go_simp)) | go_big_quiet_op); (first | go_big_quiet_on | (refine ⟨_, fun _ => rfl, ?_⟩; go_big_quiet_on)))))
        | ((with_reducible ((show wpPlan _ _ _ _ (.early 2 _) _ _))); (first | (refine wpPlan_skipE rfl rfl ?_; (try go_simp)) | (refine wpPlan_early rfl rfl ?_; intro K hK; (first | ((refine quiet_loadA_st  _ _ rfl rfl tk ag_impl_CompletionQueue lit rfl ?_); (try go_simp)) | go_big_quiet_op); (first | go_big_quiet_on | (refine ⟨_, fun _ => rfl, ?_⟩; go_big_quiet_on)))))
        | ((with_reducible ((show wpOne _ _ _ _ 1 1 _ _ _))); (first | (refine wpOne_skip rfl rfl ?_; (try go_simp)) | (refine wpOne_1 rfl rfl ?_; intro K hK; go_simp; (first | (go_at_call 74; (with_reducible refine (l16CopyS_any _ ps _ (k2.ex HS.ex) hl).mono ?_); rintro e w' ⟨A0, c0, rfl, ho, hx⟩; replace HS := HS.own ho hx; clear ho hx)); (try go_simp); refine hK _ _ ?_ ?_; (focus (exact stw HS)); clear hK K)))
        | ((with_reducible ((show wpOne _ _ _ _ 3 1 _ _ _))); (first | (refine wpOne_skip rfl rfl ?_; (try go_simp)) | (refine wpOne_1 rfl rfl ?_; intro K hK; (first | (refine wp_store_st  _ _ _ rfl rfl (v := .agg (List.toArray _)) rfl HS tk sz_impl_Memory vcs rfx rfx (by simp) ?_ rfl; clear HS; intro w5_3 hz5_3 HS; simp only [nicL, Value.cells, List.append_nil] at HS) | (refine wp_store_st  _ _ _ rfl rfl (v := .agg _) rfl HS tk sz_impl_Memory vcs rfx rfx (by simp) ?_ rfl; clear HS; intro w5_3 hz5_3 HS; simp only [nicL, Value.cells, List.append_nil] at HS)); (try go_simp); refine hK _ _ ?_ ?_; (focus (exact stw HS)); clear hK K)))
        | ((with_reducible ((show wpOne _ _ _ _ 4 2 _ _ _))); (first | (refine wpOne_skip rfl rfl ?_; (try go_simp)) | (refine wpOne_2 rfl rfl ?_; intro K hK; (first | (refine wp_store_st  _ _ _ rfl rfl (v := .agg (List.toArray _)) rfl HS tk sz_impl_CompletionQueue vcs rfx rfx (by simp) ?_ rfl; clear HS; intro w5_4 hz5_4 HS; simp only [nicL, Value.cells, List.append_nil] at HS) | (refine wp_store_st  _ _ _ rfl rfl (v := .agg _) rfl HS tk sz_impl_CompletionQueue vcs rfx rfx (by simp) ?_ rfl; clear HS; intro w5_4 hz5_4 HS; simp only [nicL, Value.cells, List.append_nil] at HS)); (try go_simp); refine hK _ _ ?_; clear hK K)))
        | ((with_reducible ((show wpOne _ _ _ _ 5 2 _ _ _))); (first | (refine wpOne_skip rfl rfl ?_; (try go_simp)) | (refine wpOne_2 rfl rfl ?_; intro K hK; go_simp; refine hK _ _ ?_; clear hK K)))
        | (with_reducible refine wpPlan_done ?_))
      go_wp2
      refine bodyPost_rets rfx (RVs.cell rfx HS tk ag_impl_Memory rfx (RVs.cell rfx HS tk ag_impl_CompletionQueue rfx (RVs.tmp rfx RVs.nil))) (by simp) rfx ?_
      exact retPut HS tk
  case true =>
    simp only [Prod.mk.injEq] at hr
    obtain ⟨rfl, rfl, rfl⟩ := hr
    have HM : Hid (nextC s c = (c + 1) % (2 * s)) := hid rfl
    have q3 : (c + 1).tmod (2 * s) = (c + 1) % (2 * s) := Int.tmod_eq_emod_of_nonneg (by omega)
    have q4 : 2 * s ≠ 0 := by omega
    have q5 : (2 * s == 0) = false := by simp [q4]
    have q6 : c ≤ 31 := by omega
    clear hD hlen
    have HS := St.start w
    go_enter Try.func26, Try.ntmps26
    go_wp2_with (first
          | (go_at_call 65; (with_reducible refine (queueOkS_any b s c _).mono ?_); rintro e w' ⟨rfl, hx⟩; rw [HQ.out]; replace HS := HS.grow hx; clear hx)
          | (go_at_call 73; (with_reducible refine (completionOkS_v HX.out _).mono ?_); rintro e w' ⟨rfl, hx⟩; replace HS := HS.grow hx; clear hx)
          | ((with_reducible (show wpList _ _ _ (Oper.mk (some 6) (Op.box _ _) _ _ _ _ :: _) _ _)); refine wpList_box_st (o := ⟨some 6, .box _ _, _, _, _, _⟩) rfl _ _ rfl (v := .agg (List.toArray _)) rfl HS ?_; clear HS; intro w6 b6 hb6 HS; simp only [Value.cells] at HS)
          | ((with_reducible (show wpList _ _ _ (Oper.mk (some 8) (Op.box _ _) _ _ _ _ :: _) _ _)); refine wpList_box_st (o := ⟨some 8, .box _ _, _, _, _, _⟩) rfl _ _ rfl (v := .agg (List.toArray _)) rfl HS ?_; clear HS; intro w8 b8 hb8 HS; simp only [Value.cells] at HS)
          | ((with_reducible (show wpList _ _ _ (Oper.mk (some 9) (Op.box _ _) _ _ _ _ :: _) _ _)); refine wpList_box_st (o := ⟨some 9, .box _ _, _, _, _, _⟩) rfl _ _ rfl (v := .agg (List.toArray _)) rfl HS ?_; clear HS; intro w9 b9 hb9 HS; simp only [Value.cells] at HS)
          | ((with_reducible (show wpList _ _ _ (Oper.mk (some 10) (Op.alloc _) _ _ _ _ :: _) _ _)); refine wpList_alloc_st (o := ⟨some 10, .alloc _, _, _, _, _⟩) rfl _ rfl zc_impl_Memory HS ?_; clear HS; intro w10 b10 hb10 HS)
          | ((with_reducible (show wpList _ _ _ (Oper.mk (some 11) (Op.alloc _) _ _ _ _ :: _) _ _)); refine wpList_alloc_st (o := ⟨some 11, .alloc _, _, _, _, _⟩) rfl _ rfl zc_impl_CompletionQueue HS ?_; clear HS; intro w11 b11 hb11 HS)
          | ((with_reducible (show wpList _ _ _ (Oper.mk (some 15) (Op.load _ _) _ _ _ _ :: _) _ _)); refine wpList_loadA_st (o := ⟨some 15, .load _ _, _, _, _, _⟩) rfl _ _ rfl rfl HS tk ag_impl_CompletionQueue lit rfl ?_)
          | ((with_reducible (show wpList _ _ _ (Oper.mk (some 19) (Op.load _ _) _ _ _ _ :: _) _ _)); refine wpList_loadA_st (o := ⟨some 19, .load _ _, _, _, _, _⟩) rfl _ _ rfl rfl HS tk ag_impl_Completion lit rfl ?_))
    refine wp_region_plan_st HS (.early 0 (.early 1 (.early 2 (.early 3 (.early 4 (.early 5 (.early 6 (.early 7 (.early 8 (.early 9 (.early 10 (.early 11 (.early 12 (.early 13 (.fork 14 1 (.fork 15 1 (.fork 16 1 (.pure 17 (.pure 18 (.pure 19 (.forced 20 1 (.forced 21 2 (.forced 22 2 .done)))))) 20 1 (.forced 16 2 (.forced 17 2 (.pure 18 (.pure 19 (.forced 21 2 (.forced 22 2 .done))))))) 20 1 (.forced 15 1 (.forced 16 2 (.forced 17 2 (.pure 18 (.pure 19 (.forced 21 2 (.forced 22 2 .done)))))))) 20 1 (.forced 14 1 (.forced 15 1 (.forced 16 2 (.forced 17 2 (.pure 18 (.pure 19 (.forced 21 2 (.forced 22 2 .done))))))))))))))))))))))) (by kernel_rfl) (by as_aux_lemma => kernel_rfl) ?_
    intro hne
    replace HS := HS.drew
    try go_simp
    repeat' (first
      | (with_reducible refine wpPlan_fork ?_ ?_)
      | (with_reducible refine wpPlan_forced ?_)
      | ((with_reducible (first | (show wpPlan _ _ _ _ (.early 0 _) _ _) | (show wpPlan _ _ _ _ (.early 2 _) _ _) | (show wpPlan _ _ _ _ (.early 3 _) _ _) | (show wpPlan _ _ _ _ (.early 5 _) _ _) | (show wpPlan _ _ _ _ (.early 7 _) _ _) | (show wpPlan _ _ _ _ (.early 9 _) _ _) | (show wpPlan _ _ _ _ (.early 10 _) _ _) | (show wpPlan _ _ _ _ (.early 11 _) _ _))); (first | (refine wpPlan_skipE rfl rfl ?_; (try go_simp)) | (refine wpPlan_early rfl rfl ?_; intro K hK; (first | go_big_quiet_op); (first | go_big_quiet_on | (refine ⟨_, fun _ => rfl, ?_⟩; go_big_quiet_on)))))
      | ((with_reducible ((show wpPlan _ _ _ _ (.early 1 _) _ _))); (first | (refine wpPlan_skipE rfl rfl ?_; (try go_simp)) | (refine wpPlan_early rfl rfl ?_; intro K hK; (first | ((refine quiet_loadA_st  _ _ rfl rfl tk ag_impl_Memory lit rfl ?_); (try go_simp)) | go_big_quiet_op); (first | go_big_quiet_on | (refine ⟨_, fun _ => rfl, ?_⟩; go_big_quiet_on)))))
      | ((with_reducible (first | (show wpPlan _ _ _ _ (.early 4 _) _ _) | (show wpPlan _ _ _ _ (.early 6 _) _ _) | (show wpPlan _ _ _ _ (.early 8 _) _ _))); (first | (refine wpPlan_skipE rfl rfl ?_; (try go_simp)) | (refine wpPlan_early rfl rfl ?_; intro K hK; (first | ((refine quiet_loadS_st  _ _ rfl rfl tk sc_int rfx ?_); (try go_simp)) | go_big_quiet_op); (first | go_big_quiet_on | (refine ⟨_, fun _ => rfl, ?_⟩; go_big_quiet_on)))))
      | ((with_reducible ((show wpPlan _ _ _ _ (.early 12 _) _ _))); (first | (refine wpPlan_skipE rfl rfl ?_; (try go_simp)) | (refine wpPlan_early rfl rfl ?_; intro K hK; (first | ((refine quiet_loadA_st  _ _ rfl rfl tk ag_impl_Completion lit rfl ?_); (try go_simp)) | go_big_quiet_op); (first | go_big_quiet_on | (refine ⟨_, fun _ => rfl, ?_⟩; go_big_quiet_on)))))
      | ((with_reducible ((show wpPlan _ _ _ _ (.early 13 _) _ _))); (first | (refine wpPlan_skipE rfl rfl ?_; (try go_simp)) | (refine wpPlan_early rfl rfl ?_; intro K hK; (first | ((refine quiet_loadA_st  _ _ rfl rfl tk ag_impl_CompletionQueue lit rfl ?_); (try go_simp)) | go_big_quiet_op); (first | go_big_quiet_on | (refine ⟨_, fun _ => rfl, ?_⟩; go_big_quiet_on)))))
      | ((with_reducible ((show wpOne _ _ _ _ 14 1 _ _ _))); (first | (refine wpOne_skip rfl rfl ?_; (try go_simp)) | (refine wpOne_1 rfl rfl ?_; intro K hK; go_simp; (first | (go_at_call 68; (with_reducible refine (l25Phase_any b s c _ HQ.out).mono ?_); rintro e w' ⟨rfl, hx⟩; replace HS := HS.grow hx; clear hx)); (try go_simp); refine hK _ _ ?_ ?_; (focus (exact stw HS)); clear hK K)))
      | ((with_reducible ((show wpOne _ _ _ _ 15 1 _ _ _))); (first | (refine wpOne_skip rfl rfl ?_; (try go_simp)) | (refine wpOne_1 rfl rfl ?_; intro K hK; go_simp; (first | (go_at_call 76; (with_reducible refine (encodeS_t x1 x2 x3 x4 x5 _ HX.out HP.out _).mono ?_); rintro e w' ⟨rfl, hx⟩; replace HS := HS.grow hx; clear hx)); (try go_simp); refine hK _ _ ?_ ?_; (focus (exact stw HS)); clear hK K)))
      | ((with_reducible ((show wpOne _ _ _ _ 16 1 _ _ _))); (first | (refine wpOne_skip rfl rfl ?_; (try go_simp)) | (refine wpOne_1 rfl rfl ?_; intro K hK; go_simp; (first | (go_at_call 75; (with_reducible refine (dmaWriteS_any _ _ l ps d (b + 16 * (c % s)) (encC x1 x2 x3 x4 x5 (phaseC s c)) _ (k1.ex HS.ex) (k2.ex HS.ex) hl hd.out HSI.out HES.out HD.out).mono ?_); rintro e w' ⟨A7, c7, rfl, ho, hx⟩; replace HS := HS.own ho hx; clear ho hx)); (try go_simp); refine hK _ _ ?_ ?_; (focus (exact stw HS)); clear hK K)))
      | ((with_reducible ((show wpPlan _ _ _ _ (.pure _ _) _ _))); (first | (refine wpPlan_skipP rfl rfl ?_; (try go_simp)) | (refine wpPlan_pure rfl rfl ?_; intro K hK; go_big_quiet_op; (first | go_big_quiet_on | (refine ⟨_, fun _ => rfl, ?_⟩; go_big_quiet_on)))))
      | ((with_reducible ((show wpOne _ _ _ _ 20 1 _ _ _))); (first | (refine wpOne_skip rfl rfl ?_; (try go_simp)) | (refine wpOne_1 rfl rfl ?_; intro K hK; (first | (refine wp_alloc_st  _ rfl zc_impl_Memory HS ?_; clear HS; intro w13 b13 hb13 HS)); (try go_simp); refine hK _ _ ?_ ?_; (focus (exact stw HS)); clear hK K)))
      | ((with_reducible ((show wpOne _ _ _ _ 21 2 _ _ _))); (first | (refine wpOne_skip rfl rfl ?_; (try go_simp)) | (refine wpOne_2 rfl rfl ?_; intro K hK; (first | (refine wp_store_st  _ _ _ rfl rfl (v := .agg (List.toArray _)) rfl HS tk sz_impl_Memory vcs rfx rfx (by simp) ?_ rfl; clear HS; intro w3_21 hz3_21 HS; simp only [nicL, Value.cells, List.append_nil] at HS) | (refine wp_store_st  _ _ _ rfl rfl (v := .agg _) rfl HS tk sz_impl_Memory vcs rfx rfx (by simp) ?_ rfl; clear HS; intro w3_21 hz3_21 HS; simp only [nicL, Value.cells, List.append_nil] at HS)); (try go_simp); refine hK _ _ ?_; clear hK K)))
      | ((with_reducible (first | (show wpOne _ _ _ _ 22 2 _ _ _) | (show wpOne _ _ _ _ 17 2 _ _ _))); (first | (refine wpOne_skip rfl rfl ?_; (try go_simp)) | (refine wpOne_2 rfl rfl ?_; intro K hK; go_simp; refine hK _ _ ?_; clear hK K)))
      | ((with_reducible ((show wpOne _ _ _ _ 16 2 _ _ _))); (first | (refine wpOne_skip rfl rfl ?_; (try go_simp)) | (refine wpOne_2 rfl rfl ?_; intro K hK; go_simp; (first | (go_at_call 75; (with_reducible refine (dmaWriteS_any _ _ l ps d (b + 16 * (c % s)) (encC x1 x2 x3 x4 x5 (phaseC s c)) _ (k1.ex HS.ex) (k2.ex HS.ex) hl hd.out HSI.out HES.out HD.out).mono ?_); rintro e w' ⟨A7, c7, rfl, ho, hx⟩; replace HS := HS.own ho hx; clear ho hx)); (try go_simp); refine hK _ _ ?_; clear hK K)))
      | (with_reducible refine wpPlan_done ?_))
    all_goals
      go_wp2_with (first
            | ((with_reducible (show wpList _ _ _ (Oper.mk (some 52) (Op.load _ _) _ _ _ _ :: _) _ _)); refine wpList_loadS_st (o := ⟨some 52, .load _ _, _, _, _, _⟩) rfl _ _ rfl rfl HS tk sc_int rfx ?_)
            | ((with_reducible (show wpList _ _ _ (Oper.mk (some 55) (Op.load _ _) _ _ _ _ :: _) _ _)); refine wpList_loadS_st (o := ⟨some 55, .load _ _, _, _, _, _⟩) rfl _ _ rfl rfl HS tk sc_int rfx ?_)
            | ((with_reducible (show wpList _ _ _ (Oper.mk none (Op.store _ (.tmp 58) _) _ _ _ _ :: _) _ _)); refine wpList_store_st (o := ⟨none, .store _ (.tmp 58) _, _, _, _, _⟩) rfl _ _ _ rfl rfl (v := .int .i64 _) rfl HS tk sz_int vcs rfx rfx (by simp) ?_ rfl; clear HS; intro w6_8 hz6_8 HS; simp only [nicL, Value.cells, List.append_nil] at HS))
      refine wp_region_plan_st (HS.arr (show Arr _ [rowA b13 _ _, rowA b8 _ _] from ary)) (.early 0 (.early 1 (.forced 2 1 (.forced 3 2 (.forced 4 2 .done))))) (by kernel_rfl) (by as_aux_lemma => kernel_rfl) ?_
      intro hne
      replace HS := HS.drew
      try go_simp
      repeat' (first
        | (with_reducible refine wpPlan_forced ?_)
        | ((with_reducible ((show wpPlan _ _ _ _ (.early 0 _) _ _))); (first | (refine wpPlan_skipE rfl rfl ?_; (try go_simp)) | (refine wpPlan_early rfl rfl ?_; intro K hK; (first | ((refine quiet_loadA_st  _ _ rfl rfl tk ag_impl_Memory lit rfl ?_); (try go_simp)) | go_big_quiet_op); (first | go_big_quiet_on | (refine ⟨_, fun _ => rfl, ?_⟩; go_big_quiet_on)))))
        | ((with_reducible ((show wpPlan _ _ _ _ (.early 1 _) _ _))); (first | (refine wpPlan_skipE rfl rfl ?_; (try go_simp)) | (refine wpPlan_early rfl rfl ?_; intro K hK; (first | ((refine quiet_loadA_st  _ _ rfl rfl tk ag_impl_CompletionQueue lit rfl ?_); (try go_simp)) | go_big_quiet_op); (first | go_big_quiet_on | (refine ⟨_, fun _ => rfl, ?_⟩; go_big_quiet_on)))))
        | ((with_reducible ((show wpOne _ _ _ _ 2 1 _ _ _))); (first | (refine wpOne_skip rfl rfl ?_; (try go_simp)) | (refine wpOne_1 rfl rfl ?_; intro K hK; (first | (refine wp_store_st  _ _ _ rfl rfl (v := .agg (List.toArray _)) rfl HS tk sz_impl_Memory vcs rfx rfx (by simp) ?_ rfl; clear HS; intro w7_2 hz7_2 HS; simp only [nicL, Value.cells, List.append_nil] at HS) | (refine wp_store_st  _ _ _ rfl rfl (v := .agg _) rfl HS tk sz_impl_Memory vcs rfx rfx (by simp) ?_ rfl; clear HS; intro w7_2 hz7_2 HS; simp only [nicL, Value.cells, List.append_nil] at HS)); (try go_simp); refine hK _ _ ?_ ?_; (focus (exact stw HS)); clear hK K)))
        | ((with_reducible ((show wpOne _ _ _ _ 3 2 _ _ _))); (first | (refine wpOne_skip rfl rfl ?_; (try go_simp)) | (refine wpOne_2 rfl rfl ?_; intro K hK; (first | (refine wp_store_st  _ _ _ rfl rfl (v := .agg (List.toArray _)) rfl HS tk sz_impl_CompletionQueue vcs rfx rfx (by simp) ?_ rfl; clear HS; intro w7_3 hz7_3 HS; simp only [nicL, Value.cells, List.append_nil] at HS) | (refine wp_store_st  _ _ _ rfl rfl (v := .agg _) rfl HS tk sz_impl_CompletionQueue vcs rfx rfx (by simp) ?_ rfl; clear HS; intro w7_3 hz7_3 HS; simp only [nicL, Value.cells, List.append_nil] at HS)); (try go_simp); refine hK _ _ ?_; clear hK K)))
        | ((with_reducible ((show wpOne _ _ _ _ 4 2 _ _ _))); (first | (refine wpOne_skip rfl rfl ?_; (try go_simp)) | (refine wpOne_2 rfl rfl ?_; intro K hK; go_simp; refine hK _ _ ?_; clear hK K)))
        | (with_reducible refine wpPlan_done ?_))
      go_wp2
      rw [HM.out]
      refine bodyPost_rets rfx (RVs.cell rfx HS tk ag_impl_Memory rfx (RVs.cell rfx HS tk ag_impl_CompletionQueue rfx (RVs.tmp rfx RVs.nil))) (by simp) rfx ?_
      exact retPut HS tk

end Go.Proofs.Ytelkplponnfkpaa
