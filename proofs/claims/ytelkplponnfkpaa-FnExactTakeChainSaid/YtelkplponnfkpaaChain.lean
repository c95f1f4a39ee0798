/- Taking a chain of descriptors off a ring: the program and the reference. -/
import Derived.Test.YtelkplponnfkpaaRows
import Derived.Test.YtelkplponnfkpaaRing
import Derived.Test.YtelkplponnfkpaaDesc2
import Derived.Test.YtelkplponnfkpaaTk
namespace Go.Proofs.Ytelkplponnfkpaa
open Go.RowKit
set_option linter.unusedVariables false
set_option linter.unusedSimpArgs false

def sliceLen : Value → Nat
  | .slice _ n _ => n
  | _ => 0
def chainF (l : List Mp) (ps : Pg) (d b s t : Int) : Nat → Int → List Dsc → Option (List Dsc × Int)
  | 0, h, out => some (out, h)
  | n + 1, h, out => match rtakeF l ps d b s h t with
    | (_, _, false) => none
    | (x, h2, true) => match decDF x with
      | (_, false) => none
      | ((op, fl, ln, at_, sz, ck), true) => if op = 1 ∧ fl % 2 = 1 then some (out ++ [(op, fl, ln, at_, sz, ck)], h2) else chainF l ps d b s t n h2 (out ++ [(op, fl, ln, at_, sz, ck)])
def tchainF (l : List Mp) (ps : Pg) (d b s h t : Int) : List Dsc × Int × Bool :=
  if ringOkB b s h t then if usedF s h t = 0 then ([], h, false) else match chainF l ps d b s t (usedF s h t).toNat h [] with
    | some (out, h2) => (out, h2, true)
    | none => ([], t, false)
  else ([], h, false)
theorem dmaRF_sz {l : List Mp} {ps : Pg} {d a n : Int} {t : ByteArray} (h : (t, true) = dmaRF l ps d a n) : (t.size : Int) = n := by
  unfold dmaRF at h
  split at h
  · rename_i hq; simp only [Prod.mk.injEq] at h; rw [h.1]; exact (dmaR_size hq).1
  · cases h
theorem rtakeF_true {l : List Mp} {ps : Pg} {d b s h t : Int} {x : ByteArray} {h2 : Int} (q : ringOkB b s h t = true) (hr : (x, h2, true) = rtakeF l ps d b s h t) :
    ringOkB b s h2 t = true ∧ usedF s h2 t = usedF s h t - 1 ∧ x.size = 16 := by
  obtain ⟨hs, b0, b1, s0, s1, h0, h1, t0, t1, u1, u0⟩ := ringOk_facts q
  unfold rtakeF at hr
  rw [q, if_pos rfl] at hr
  split at hr
  · cases hr
  · rename_i hu
    split at hr
    · rename_i x' hd
      simp only [Prod.mk.injEq, and_true] at hr
      obtain ⟨rfl, rfl⟩ := hr
      have hx := dmaRF_sz hd.symm
      have hsz := sizeB_cases hs
      unfold usedF at hu ⊢
      unfold rnext
      have key : 0 ≤ (h + 1) % (2 * s) ∧ (h + 1) % (2 * s) ≤ 2 * s - 1 ∧ (t - (h + 1) % (2 * s)) % (2 * s) = (t - h) % (2 * s) - 1 := by
        rcases hsz with rfl | rfl | rfl | rfl <;> omega
      obtain ⟨k1, k2, k3⟩ := key
      refine ⟨?_, k3, by omega⟩
      simp only [ringOkB, Bool.and_eq_true, inB_iff, decide_eq_true_eq]
      refine ⟨⟨⟨⟨⟨b0, b1⟩, hs⟩, k1, k2⟩, t0, t1⟩, by omega⟩
    · cases hr
theorem decDF_true {x : ByteArray} {op fl ln at_ sz ck : Int} (hr : ((op, fl, ln, at_, sz, ck), true) = decDF x) : descB op fl ln at_ sz ck = true := by
  unfold decDF at hr
  split at hr
  · rename_i hx
    split at hr
    · rename_i he
      unfold decX at hr
      simp only [Prod.mk.injEq, and_true] at hr
      obtain ⟨rfl, rfl, rfl, rfl, rfl, rfl⟩ := hr
      cases hb : descB (bAt x 0) (bAt x 1) (get16 x 2) (get32 x 4) (get16 x 8) (get16 x 10) with
      | true => rfl
      | false =>
        unfold encDF at he
        rw [hb, if_neg (by decide)] at he
        rw [← he] at hx
        exact absurd hx (by decide)
    · cases hr
  · cases hr
def RetChain (w : World) (ds : List Dsc) (b s h t : Int) (ok : Bool) (e : Ending) (w' : World) : Prop := ∃ A k, e = .returned (.tuple #[.slice A ds.length k, .agg #[.int .i64 b, .int .i64 s, .int .i64 h, .int .i64 t], .bool ok]) ∧ Owns w.heap.size w' ds [.slice A ds.length k] ∧ Ex w w'
theorem retChain {w0 w : World} {Is Js : List Asn} {ds : List Dsc} {v : Value} {b s h t : Int} {ok : Bool} (hh : St w0 w Is) (tt : Take Is (ownA ds [v]) Js) : RetChain w0 ds b s h t ok (.returned (.tuple #[v, .agg #[.int .i64 b, .int .i64 s, .int .i64 h, .int .i64 t], .bool ok])) w := by
  obtain ⟨a, k, rfl⟩ := ownA.form hh tt
  exact ⟨a, k, rfl, hh.owns tt, hh.ex⟩

theorem rtakeF_false {l : List Mp} {ps : Pg} {d b s h t : Int} {x : ByteArray} {h2 : Int} (hr : (x, h2, false) = rtakeF l ps d b s h t) : x = ⟨#[]⟩ := by
  unfold rtakeF at hr
  split at hr
  · split at hr
    · simp only [Prod.mk.injEq] at hr; exact hr.1
    · split at hr
      · cases hr
      · simp only [Prod.mk.injEq] at hr; exact hr.1
  · simp only [Prod.mk.injEq] at hr; exact hr.1

set_option maxRecDepth 100000 in
set_option maxHeartbeats 4000000 in
theorem takeChain_any (v1 v2 : Value) (l : List Mp) (ps : Pg) (d b s h t : Int) (w : World) (k1 : Holds w l [v1]) (k2 : Holds w ps [v2]) (hd : i64ok d) {ds : List Dsc} {h9 : Int} {ok : Bool} (hr : (ds, h9, ok) = tchainF l ps d b s h t) :
    Calls Try.prog 37 #[v1, .agg #[v2], .int .i64 d, .agg #[.int .i64 b, .int .i64 s, .int .i64 h, .int .i64 t]] w (RetChain w ds b s h9 t ok) := by
  obtain ⟨AA, cap, rfl, z1, z2⟩ := k1.fl
  unfold maxLen at z2
  obtain ⟨BB, cap2, rfl, y1, y2⟩ := k2.fl
  unfold maxLen at y2
  replace hd := hid hd
  cases hq : ringOkB b s h t
  case false =>
    have HQ := hid hq
    unfold tchainF at hr
    rw [hq, if_neg (by decide)] at hr
    simp only [Prod.mk.injEq] at hr
    obtain ⟨rfl, e2, rfl⟩ := hr
    replace e2 := e2.symm
    subst e2
    clear hq
    have HS := St.start w
    go_enter Try.func37, Try.ntmps37
    go_wp2_with (first
          | (go_at_call 87; (with_reducible refine (ringOk_any b s h t _).mono ?_); rintro e w' ⟨rfl, hx⟩; rw [HQ.out]; replace HS := HS.grow hx; clear hx)
          | ((with_reducible (show wpList _ _ _ (Oper.mk (some 5) (Op.box _ _) _ _ _ _ :: _) _ _)); refine wpList_box_st (o := ⟨some 5, .box _ _, _, _, _, _⟩) rfl _ _ rfl (v := .agg (List.toArray _)) rfl HS ?_; clear HS; intro w5 b5 hb5 HS; simp only [Value.cells] at HS)
          | ((with_reducible (show wpList _ _ _ (Oper.mk (some 7) (Op.box _ _) _ _ _ _ :: _) _ _)); refine wpList_box_st (o := ⟨some 7, .box _ _, _, _, _, _⟩) rfl _ _ rfl (v := .agg (List.toArray _)) rfl HS ?_; clear HS; intro w7 b7 hb7 HS; simp only [Value.cells] at HS)
          | ((with_reducible (show wpList _ _ _ (Oper.mk (some 9) (Op.alloc _) _ _ _ _ :: _) _ _)); refine wpList_alloc_st (o := ⟨some 9, .alloc _, _, _, _, _⟩) rfl _ rfl zc_impl_Ring HS ?_; clear HS; intro w9 b9 hb9 HS)
          | ((with_reducible (show wpList _ _ _ (Oper.mk (some 17) (Op.load _ _) _ _ _ _ :: _) _ _)); refine wpList_loadA_st (o := ⟨some 17, .load _ _, _, _, _, _⟩) rfl _ _ rfl rfl HS tk ag_impl_Ring lit rfl ?_))
    refine wp_region_plan_st (HS.arr (show Arr _ [rowA b7 _ _] from ary)) (.early 0 (.forced 1 1 (.forced 2 2 (.forced 3 2 .done)))) (by kernel_rfl) (by as_aux_lemma => kernel_rfl) ?_
    intro hne
    replace HS := HS.drew
    try go_simp
    repeat' (first
      | (with_reducible refine wpPlan_forced ?_)
      | ((with_reducible ((show wpPlan _ _ _ _ (.early 0 _) _ _))); (first | (refine wpPlan_skipE rfl rfl ?_; (try go_simp)) | (refine wpPlan_early rfl rfl ?_; intro K hK; (first | ((refine quiet_loadA_st  _ _ rfl rfl tk ag_impl_Ring lit rfl ?_); (try go_simp)) | go_big_quiet_op); (first | go_big_quiet_on | (refine ⟨_, fun _ => rfl, ?_⟩; go_big_quiet_on)))))
      | ((with_reducible ((show wpOne _ _ _ _ 1 1 _ _ _))); (first | (refine wpOne_skip rfl rfl ?_; (try go_simp)) | (refine wpOne_1 rfl rfl ?_; intro K hK; go_simp; refine hK _ _ ?_ ?_; (focus (exact stw HS)); clear hK K)))
      | ((with_reducible ((show wpOne _ _ _ _ 2 2 _ _ _))); (first | (refine wpOne_skip rfl rfl ?_; (try go_simp)) | (refine wpOne_2 rfl rfl ?_; intro K hK; (first | (refine wp_store_st  _ _ _ rfl rfl (v := .agg (List.toArray _)) rfl HS tk sz_impl_Ring vcs rfx rfx (by simp) ?_ rfl; clear HS; intro w2_2 hz2_2 HS; simp only [nicL, Value.cells, List.append_nil] at HS) | (refine wp_store_st  _ _ _ rfl rfl (v := .agg _) rfl HS tk sz_impl_Ring vcs rfx rfx (by simp) ?_ rfl; clear HS; intro w2_2 hz2_2 HS; simp only [nicL, Value.cells, List.append_nil] at HS)); (try go_simp); refine hK _ _ ?_; clear hK K)))
      | ((with_reducible ((show wpOne _ _ _ _ 3 2 _ _ _))); (first | (refine wpOne_skip rfl rfl ?_; (try go_simp)) | (refine wpOne_2 rfl rfl ?_; intro K hK; go_simp; refine hK _ _ ?_; clear hK K)))
      | (with_reducible refine wpPlan_done ?_))
    all_goals
      go_wp2
      replace HS := HS.empty (α := Dsc) none
      refine bodyPost_rets rfx (RVs.tmp rfx (RVs.cell rfx HS tk ag_impl_Ring rfx (RVs.tmp rfx RVs.nil))) (by simp) rfx ?_
      exact retChain HS tk
  case true =>
  have HQ := hid hq
  obtain ⟨hs, b0, b1, s0, s1, h0, h1b, t0, t1, u1, u0⟩ := ringOk_facts hq
  have HZ := hid hs
  obtain ⟨uv, huv⟩ : ∃ v, (t - h) % (2 * s) = v := ⟨_, rfl⟩
  have HU := hid huv
  unfold tchainF at hr
  rw [hq, if_pos rfl] at hr
  unfold usedF at hr
  rw [huv] at hr u0 u1
  by_cases hz : uv = 0
  case pos =>
    rw [if_pos hz] at hr
    simp only [Prod.mk.injEq] at hr
    obtain ⟨rfl, e2, rfl⟩ := hr
    replace e2 := e2.symm
    subst e2
    have z3 : (uv == 0) = true := by simp [hz]
    clear hz hs huv hq
    have HS := St.start w
    go_enter Try.func37, Try.ntmps37
    go_wp2_with (first
          | (go_at_call 87; (with_reducible refine (ringOk_any b s h t _).mono ?_); rintro e w' ⟨rfl, hx⟩; rw [HQ.out]; replace HS := HS.grow hx; clear hx)
          | (go_at_call 88; (with_reducible refine (ringUsed_any b s h t HZ.out (by omega) (by omega) (by omega) (by omega) _).mono ?_); rintro e w' ⟨rfl, hx⟩; rw [HU.out]; replace HS := HS.grow hx; clear hx)
          | ((with_reducible (show wpList _ _ _ (Oper.mk (some 5) (Op.box _ _) _ _ _ _ :: _) _ _)); refine wpList_box_st (o := ⟨some 5, .box _ _, _, _, _, _⟩) rfl _ _ rfl (v := .agg (List.toArray _)) rfl HS ?_; clear HS; intro w5 b5 hb5 HS; simp only [Value.cells] at HS)
          | ((with_reducible (show wpList _ _ _ (Oper.mk (some 7) (Op.box _ _) _ _ _ _ :: _) _ _)); refine wpList_box_st (o := ⟨some 7, .box _ _, _, _, _, _⟩) rfl _ _ rfl (v := .agg (List.toArray _)) rfl HS ?_; clear HS; intro w7 b7 hb7 HS; simp only [Value.cells] at HS)
          | ((with_reducible (show wpList _ _ _ (Oper.mk (some 9) (Op.alloc _) _ _ _ _ :: _) _ _)); refine wpList_alloc_st (o := ⟨some 9, .alloc _, _, _, _, _⟩) rfl _ rfl zc_impl_Ring HS ?_; clear HS; intro w9 b9 hb9 HS)
          | ((with_reducible (show wpList _ _ _ (Oper.mk (some 17) (Op.load _ _) _ _ _ _ :: _) _ _)); refine wpList_loadA_st (o := ⟨some 17, .load _ _, _, _, _, _⟩) rfl _ _ rfl rfl HS tk ag_impl_Ring lit rfl ?_)
          | ((with_reducible (show wpList _ _ _ (Oper.mk (some 21) (Op.load _ _) _ _ _ _ :: _) _ _)); refine wpList_loadA_st (o := ⟨some 21, .load _ _, _, _, _, _⟩) rfl _ _ rfl rfl HS tk ag_impl_Ring lit rfl ?_))
    refine wp_region_plan_st (HS.arr (show Arr _ [rowA b7 _ _] from ary)) (.early 0 (.forced 1 1 (.forced 2 2 (.forced 3 2 .done)))) (by kernel_rfl) (by as_aux_lemma => kernel_rfl) ?_
    intro hne
    replace HS := HS.drew
    try go_simp
    repeat' (first
      | (with_reducible refine wpPlan_forced ?_)
      | ((with_reducible ((show wpPlan _ _ _ _ (.early 0 _) _ _))); (first | (refine wpPlan_skipE rfl rfl ?_; (try go_simp)) | (refine wpPlan_early rfl rfl ?_; intro K hK; (first | ((refine quiet_loadA_st  _ _ rfl rfl tk ag_impl_Ring lit rfl ?_); (try go_simp)) | go_big_quiet_op); (first | go_big_quiet_on | (refine ⟨_, fun _ => rfl, ?_⟩; go_big_quiet_on)))))
      | ((with_reducible ((show wpOne _ _ _ _ 1 1 _ _ _))); (first | (refine wpOne_skip rfl rfl ?_; (try go_simp)) | (refine wpOne_1 rfl rfl ?_; intro K hK; go_simp; refine hK _ _ ?_ ?_; (focus (exact stw HS)); clear hK K)))
      | ((with_reducible ((show wpOne _ _ _ _ 2 2 _ _ _))); (first | (refine wpOne_skip rfl rfl ?_; (try go_simp)) | (refine wpOne_2 rfl rfl ?_; intro K hK; (first | (refine wp_store_st  _ _ _ rfl rfl (v := .agg (List.toArray _)) rfl HS tk sz_impl_Ring vcs rfx rfx (by simp) ?_ rfl; clear HS; intro w2_2 hz2_2 HS; simp only [nicL, Value.cells, List.append_nil] at HS) | (refine wp_store_st  _ _ _ rfl rfl (v := .agg _) rfl HS tk sz_impl_Ring vcs rfx rfx (by simp) ?_ rfl; clear HS; intro w2_2 hz2_2 HS; simp only [nicL, Value.cells, List.append_nil] at HS)); (try go_simp); refine hK _ _ ?_; clear hK K)))
      | ((with_reducible ((show wpOne _ _ _ _ 3 2 _ _ _))); (first | (refine wpOne_skip rfl rfl ?_; (try go_simp)) | (refine wpOne_2 rfl rfl ?_; intro K hK; go_simp; refine hK _ _ ?_; clear hK K)))
      | (with_reducible refine wpPlan_done ?_))
    all_goals
      go_wp2
      replace HS := HS.empty (α := Dsc) none
      refine bodyPost_rets rfx (RVs.tmp rfx (RVs.cell rfx HS tk ag_impl_Ring rfx (RVs.tmp rfx RVs.nil))) (by simp) rfx ?_
      exact retChain HS tk
  case neg =>
  rw [if_neg hz] at hr
  have z3 : (uv == 0) = false := by simp [hz]
  obtain ⟨un, rfl⟩ := Int.eq_ofNat_of_zero_le u0
  rw [Int.toNat_natCast] at hr
  obtain ⟨O, hO⟩ : ∃ O, O = chainF l ps d b s t un h [] := ⟨_, rfl⟩
  rw [← hO] at hr
  have HR := hid hr
  have HO0 := hid hO
  have HUV : Hid (usedF s h t = (un : Int)) := hid huv
  clear hr hO hz hs hq huv
  have HS := St.start w
  go_enter Try.func37, Try.ntmps37
  go_wp2_with (first
        | (go_at_call 87; (with_reducible refine (ringOk_any b s h t _).mono ?_); rintro e w' ⟨rfl, hx⟩; rw [HQ.out]; replace HS := HS.grow hx; clear hx)
        | (go_at_call 88; (with_reducible refine (ringUsed_any b s h t HZ.out (by omega) (by omega) (by omega) (by omega) _).mono ?_); rintro e w' ⟨rfl, hx⟩; rw [HU.out]; replace HS := HS.grow hx; clear hx)
        | ((with_reducible (show wpList _ _ _ (Oper.mk (some 5) (Op.box _ _) _ _ _ _ :: _) _ _)); refine wpList_box_st (o := ⟨some 5, .box _ _, _, _, _, _⟩) rfl _ _ rfl (v := .agg (List.toArray _)) rfl HS ?_; clear HS; intro w5 b5 hb5 HS; simp only [Value.cells] at HS)
        | ((with_reducible (show wpList _ _ _ (Oper.mk (some 7) (Op.box _ _) _ _ _ _ :: _) _ _)); refine wpList_box_st (o := ⟨some 7, .box _ _, _, _, _, _⟩) rfl _ _ rfl (v := .agg (List.toArray _)) rfl HS ?_; clear HS; intro w7 b7 hb7 HS; simp only [Value.cells] at HS)
        | ((with_reducible (show wpList _ _ _ (Oper.mk (some 9) (Op.alloc _) _ _ _ _ :: _) _ _)); refine wpList_alloc_st (o := ⟨some 9, .alloc _, _, _, _, _⟩) rfl _ rfl zc_impl_Ring HS ?_; clear HS; intro w9 b9 hb9 HS)
        | ((with_reducible (show wpList _ _ _ (Oper.mk (some 17) (Op.load _ _) _ _ _ _ :: _) _ _)); refine wpList_loadA_st (o := ⟨some 17, .load _ _, _, _, _, _⟩) rfl _ _ rfl rfl HS tk ag_impl_Ring lit rfl ?_)
        | ((with_reducible (show wpList _ _ _ (Oper.mk (some 21) (Op.load _ _) _ _ _ _ :: _) _ _)); refine wpList_loadA_st (o := ⟨some 21, .load _ _, _, _, _, _⟩) rfl _ _ rfl rfl HS tk ag_impl_Ring lit rfl ?_)
        | ((with_reducible (show wpList _ _ _ (Oper.mk (some 26) (Op.load _ _) _ _ _ _ :: _) _ _)); refine wpList_loadA_st (o := ⟨some 26, .load _ _, _, _, _, _⟩) rfl _ _ rfl rfl HS tk ag_impl_Ring lit rfl ?_)
        | ((with_reducible (show wpList _ _ _ (Oper.mk (some 11) (Op.alloc _) _ _ _ _ :: _) _ _)); refine wpList_alloc_st (o := ⟨some 11, .alloc _, _, _, _, _⟩) rfl _ rfl zc_impl_Ring HS ?_; clear HS; intro w11 b11 hb11 HS)
        | ((with_reducible (show wpList _ _ _ (Oper.mk none (Op.store _ (.tmp 11) _) _ _ _ _ :: _) _ _)); refine wpList_store_st (o := ⟨none, .store _ (.tmp 11) _, _, _, _, _⟩) rfl _ _ _ rfl rfl (v := .agg (List.toArray _)) rfl HS tk sz_impl_Ring vcs rfx rfx (by simp) ?_ rfl; clear HS; intro w3_2 hz3_2 HS; simp only [nicL, Value.cells, List.append_nil] at HS)
        | ((with_reducible (show wpList _ _ _ (Oper.mk (some 28) (Op.load _ _) _ _ _ _ :: _) _ _)); refine wpList_loadS_st (o := ⟨some 28, .load _ _, _, _, _, _⟩) rfl _ _ rfl rfl HS tk sc_int rfx ?_)
        | ((with_reducible (show wpList _ _ _ (Oper.mk none (Op.store _ (.tmp 29) _) _ _ _ _ :: _) _ _)); refine wpList_store_st (o := ⟨none, .store _ (.tmp 29) _, _, _, _, _⟩) rfl _ _ _ rfl rfl (v := .int .i64 _) rfl HS tk sz_int vcs rfx rfx (by simp) ?_ rfl; clear HS; intro w4_3 hz4_3 HS; simp only [nicL, Value.cells, List.append_nil] at HS)
        | ((with_reducible (show wpList _ _ _ (Oper.mk (some 30) (Op.buildSlice _ _ _) _ _ _ _ :: _) _ _)); refine wpList_bslice0_st (o := ⟨some 30, .buildSlice _ _ _, _, _, _, _⟩) rfl _ rfl _ Try.underlying83 in_impl_Desc HS ?_; clear HS; intro w30 b30 hb30 HS; replace HS := HS.slotMade 6 tk; replace HS := HS.shut (α := Dsc) (xs := []) tk rfl (fun _ h => by cases h)))
  go_loopw [12] (fun ov wr => ∃ (h1 : Int) (n : Nat) (out : List Dsc) (A1 : Option Addr) (c1 : Nat), Hid (ringOkB b s h1 t = true) ∧ Hid (usedF s h1 t = (n : Int)) ∧ out.length + n ≤ 16 ∧ Hid (O = chainF l ps d b s t n h1 out) ∧ ov = .slice A1 out.length c1 ∧ St w wr [rowA b5 [.slice BB ps.length cap2] 27, rowA b7 [.int .i64 b, .int .i64 s, .int .i64 h1, .int .i64 t] 29, rowA b9 [.int .i64 0, .int .i64 0, .int .i64 0, .int .i64 0] 29, rowA b11 [.int .i64 b, .int .i64 s, .int .i64 t, .int .i64 t] 29, ownA out [.slice A1 out.length c1]]) (fun ov _ => 16 - sliceLen ov)
  case atStart => exact ⟨h, un, [], _, _, HQ, HUV, by simp; omega, HO0, rfl, (HS.arr (by repeat (first | exact Arr.nil | (with_reducible exact take_all _) | (refine Arr.cons tk ?_) | (refine arr_skip ?_))))⟩
  case round =>
    clear HS HQ HU HUV HO0
    obtain ⟨h1, n, out, A1, c1, HQ, HU, hn, HOO, rfl, HS⟩ := hrel
    replace HU : Hid ((t - h1) % (2 * s) = (n : Int)) := HU
    have hq := HQ.out
    clear h0 h1b u1 u0 b0 b1 s0 s1 t0 t1
    obtain ⟨hs, b0, b1, s0, s1, h0, h1b, t0, t1, u1, u0⟩ := ringOk_facts hq
    clear hq hs u1 u0
    by_cases hn0 : n = 0
    case pos =>
      subst hn0
      have hr2 := HR.out
      rw [HOO.out, chainF] at hr2
      simp only [Prod.mk.injEq] at hr2
      obtain ⟨e1, e2, rfl⟩ := hr2
      replace e1 := e1.symm
      subst e1
      replace e2 := e2.symm
      subst e2
      have e0 : ¬ ((0 : Int) < ((0 : Nat) : Int)) := by omega
      clear HOO HR
      go_wp2_with (first
            | (go_at_call 88; (with_reducible refine (ringUsed_any b s h1 t HZ.out (by omega) (by omega) (by omega) (by omega) _).mono ?_); rintro e w' ⟨rfl, hx⟩; rw [HU.out]; replace HS := HS.grow hx; clear hx)
            | ((with_reducible (show wpList _ _ _ (Oper.mk (some 31) (Op.load _ _) _ _ _ _ :: _) _ _)); refine wpList_loadA_st (o := ⟨some 31, .load _ _, _, _, _, _⟩) rfl _ _ rfl rfl HS tk ag_impl_Ring lit rfl ?_))
      refine wp_region_plan_st (HS.arr (show Arr _ [rowA b7 _ _] from ary)) (.early 0 (.early 1 (.forced 2 1 (.forced 3 2 (.forced 4 2 .done))))) (by kernel_rfl) (by as_aux_lemma => kernel_rfl) ?_
      intro hne
      replace HS := HS.drew
      try go_simp
      repeat' (first
        | (with_reducible refine wpPlan_forced ?_)
        | ((with_reducible ((show wpPlan _ _ _ _ (.early 0 _) _ _))); (first | (refine wpPlan_skipE rfl rfl ?_; (try go_simp)) | (refine wpPlan_early rfl rfl ?_; intro K hK; (first | go_big_quiet_op); (first | go_big_quiet_on | (refine ⟨_, fun _ => rfl, ?_⟩; go_big_quiet_on)))))
        | ((with_reducible ((show wpPlan _ _ _ _ (.early 1 _) _ _))); (first | (refine wpPlan_skipE rfl rfl ?_; (try go_simp)) | (refine wpPlan_early rfl rfl ?_; intro K hK; (first | ((refine quiet_loadA_st  _ _ rfl rfl tk ag_impl_Ring lit rfl ?_); (try go_simp)) | go_big_quiet_op); (first | go_big_quiet_on | (refine ⟨_, fun _ => rfl, ?_⟩; go_big_quiet_on)))))
        | ((with_reducible ((show wpOne _ _ _ _ 2 1 _ _ _))); (first | (refine wpOne_skip rfl rfl ?_; (try go_simp)) | (refine wpOne_1 rfl rfl ?_; intro K hK; go_simp; refine hK _ _ ?_ ?_; (focus (exact stw HS)); clear hK K)))
        | ((with_reducible ((show wpOne _ _ _ _ 3 2 _ _ _))); (first | (refine wpOne_skip rfl rfl ?_; (try go_simp)) | (refine wpOne_2 rfl rfl ?_; intro K hK; (first | (refine wp_store_st  _ _ _ rfl rfl (v := .agg (List.toArray _)) rfl HS tk sz_impl_Ring vcs rfx rfx (by simp) ?_ rfl; clear HS; intro w16_3 hz16_3 HS; simp only [nicL, Value.cells, List.append_nil] at HS) | (refine wp_store_st  _ _ _ rfl rfl (v := .agg _) rfl HS tk sz_impl_Ring vcs rfx rfx (by simp) ?_ rfl; clear HS; intro w16_3 hz16_3 HS; simp only [nicL, Value.cells, List.append_nil] at HS)); (try go_simp); refine hK _ _ ?_; clear hK K)))
        | ((with_reducible ((show wpOne _ _ _ _ 4 2 _ _ _))); (first | (refine wpOne_skip rfl rfl ?_; (try go_simp)) | (refine wpOne_2 rfl rfl ?_; intro K hK; go_simp; refine hK _ _ ?_; clear hK K)))
        | (with_reducible refine wpPlan_done ?_))
      all_goals
        go_wp2
        refine bodyPost_rets rfx (RVs.tmp rfx (RVs.cell rfx HS tk ag_impl_Ring rfx (RVs.tmp rfx RVs.nil))) (by simp) rfx ?_
        exact retChain HS tk
    case neg =>
    obtain ⟨m, rfl⟩ : ∃ m, n = m + 1 := ⟨n - 1, by omega⟩
    clear hn0
    have e0 : (0 : Int) < ((m + 1 : Nat) : Int) := by omega
    obtain ⟨⟨x, h2, ok1⟩, hT⟩ : ∃ r, r = rtakeF l ps d b s h1 t := ⟨_, rfl⟩
    have HT := hid hT
    cases ok1
    case false =>
      have hr2 := HR.out
      rw [HOO.out, chainF, ← hT] at hr2
      simp only [Prod.mk.injEq] at hr2
      obtain ⟨rfl, e2, rfl⟩ := hr2
      replace e2 := e2.symm
      subst e2
      clear HOO HR
      skip
      clear hT
      go_wp2_with (first
            | (go_at_call 88; (with_reducible refine (ringUsed_any b s h1 t HZ.out (by omega) (by omega) (by omega) (by omega) _).mono ?_); rintro e w' ⟨rfl, hx⟩; rw [HU.out]; replace HS := HS.grow hx; clear hx)
            | (go_at_call 89; (with_reducible refine (ringTake_any _ _ l ps d b s h1 t _ (k1.ex HS.ex) (k2.ex HS.ex) hd.out HT.out).mono ?_); rintro e w' ⟨rfl, hx⟩; replace HS := HS.grow hx; clear hx)
            | ((with_reducible (show wpList _ _ _ (Oper.mk (some 31) (Op.load _ _) _ _ _ _ :: _) _ _)); refine wpList_loadA_st (o := ⟨some 31, .load _ _, _, _, _, _⟩) rfl _ _ rfl rfl HS tk ag_impl_Ring lit rfl ?_)
            | ((with_reducible (show wpList _ _ _ (Oper.mk (some 36) (Op.load _ _) _ _ _ _ :: _) _ _)); refine wpList_loadA_st (o := ⟨some 36, .load _ _, _, _, _, _⟩) rfl _ _ rfl rfl HS tk ag_impl_Memory lit rfl ?_)
            | ((with_reducible (show wpList _ _ _ (Oper.mk (some 38) (Op.load _ _) _ _ _ _ :: _) _ _)); refine wpList_loadA_st (o := ⟨some 38, .load _ _, _, _, _, _⟩) rfl _ _ rfl rfl HS tk ag_impl_Ring lit rfl ?_)
            | ((with_reducible (show wpList _ _ _ (Oper.mk (some 14) (Op.alloc _) _ _ _ _ :: _) _ _)); refine wpList_alloc_st (o := ⟨some 14, .alloc _, _, _, _, _⟩) rfl _ rfl zc_impl_Ring HS ?_; clear HS; intro w14 b14 hb14 HS)
            | ((with_reducible (show wpList _ _ _ (Oper.mk none (Op.store _ (.tmp 14) _) _ _ _ _ :: _) _ _)); refine wpList_store_st (o := ⟨none, .store _ (.tmp 14) _, _, _, _, _⟩) rfl _ _ _ rfl rfl (v := .agg (List.toArray _)) rfl HS tk sz_impl_Ring vcs rfx rfx (by simp) ?_ rfl; clear HS; intro w7_11 hz7_11 HS; simp only [nicL, Value.cells, List.append_nil] at HS))
      refine wp_region_plan_st (HS.arr (show Arr _ [rowA b11 _ _] from ary)) (.early 0 (.forced 1 1 (.forced 2 2 (.forced 3 2 .done)))) (by kernel_rfl) (by as_aux_lemma => kernel_rfl) ?_
      intro hne
      replace HS := HS.drew
      try go_simp
      repeat' (first
        | (with_reducible refine wpPlan_forced ?_)
        | ((with_reducible ((show wpPlan _ _ _ _ (.early 0 _) _ _))); (first | (refine wpPlan_skipE rfl rfl ?_; (try go_simp)) | (refine wpPlan_early rfl rfl ?_; intro K hK; (first | ((refine quiet_loadA_st  _ _ rfl rfl tk ag_impl_Ring lit rfl ?_); (try go_simp)) | go_big_quiet_op); (first | go_big_quiet_on | (refine ⟨_, fun _ => rfl, ?_⟩; go_big_quiet_on)))))
        | ((with_reducible ((show wpOne _ _ _ _ 1 1 _ _ _))); (first | (refine wpOne_skip rfl rfl ?_; (try go_simp)) | (refine wpOne_1 rfl rfl ?_; intro K hK; go_simp; refine hK _ _ ?_ ?_; (focus (exact stw HS)); clear hK K)))
        | ((with_reducible ((show wpOne _ _ _ _ 2 2 _ _ _))); (first | (refine wpOne_skip rfl rfl ?_; (try go_simp)) | (refine wpOne_2 rfl rfl ?_; intro K hK; (first | (refine wp_store_st  _ _ _ rfl rfl (v := .agg (List.toArray _)) rfl HS tk sz_impl_Ring vcs rfx rfx (by simp) ?_ rfl; clear HS; intro w9_2 hz9_2 HS; simp only [nicL, Value.cells, List.append_nil] at HS) | (refine wp_store_st  _ _ _ rfl rfl (v := .agg _) rfl HS tk sz_impl_Ring vcs rfx rfx (by simp) ?_ rfl; clear HS; intro w9_2 hz9_2 HS; simp only [nicL, Value.cells, List.append_nil] at HS)); (try go_simp); refine hK _ _ ?_; clear hK K)))
        | ((with_reducible ((show wpOne _ _ _ _ 3 2 _ _ _))); (first | (refine wpOne_skip rfl rfl ?_; (try go_simp)) | (refine wpOne_2 rfl rfl ?_; intro K hK; go_simp; refine hK _ _ ?_; clear hK K)))
        | (with_reducible refine wpPlan_done ?_))
      all_goals
        go_wp2
        replace HS := HS.empty (α := Dsc) none
        refine bodyPost_rets rfx (RVs.tmp rfx (RVs.cell rfx HS tk ag_impl_Ring rfx (RVs.tmp rfx RVs.nil))) (by simp) rfx ?_
        exact retChain HS tk
    case true =>
    obtain ⟨q2, v2, x16⟩ := rtakeF_true HQ.out hT
    have HQ2 := hid q2
    have HU2 : Hid (usedF s h2 t = (m : Int)) := hid (by rw [v2]; show (t - h1) % (2 * s) - 1 = _; rw [HU.out]; omega)
    have HXS : Hid (x.size ≤ 9223372036854775807) := hid (by omega)
    obtain ⟨⟨⟨op, fl, ln, at_, sz, ck⟩, ok2⟩, hDD⟩ : ∃ r, r = decDF x := ⟨_, rfl⟩
    have HDD := hid hDD
    clear q2 v2 x16
    cases ok2
    case false =>
      have hr2 := HR.out
      rw [HOO.out, chainF, ← hT] at hr2
      simp only [← hDD] at hr2
      simp only [Prod.mk.injEq] at hr2
      obtain ⟨rfl, e2, rfl⟩ := hr2
      replace e2 := e2.symm
      subst e2
      clear HOO HR hT hDD
      go_wp2_with (first
            | (go_at_call 88; (with_reducible refine (ringUsed_any b s h1 t HZ.out (by omega) (by omega) (by omega) (by omega) _).mono ?_); rintro e w' ⟨rfl, hx⟩; rw [HU.out]; replace HS := HS.grow hx; clear hx)
            | (go_at_call 89; (with_reducible refine (ringTake_any _ _ l ps d b s h1 t _ (k1.ex HS.ex) (k2.ex HS.ex) hd.out HT.out).mono ?_); rintro e w' ⟨rfl, hx⟩; replace HS := HS.grow hx; clear hx)
            | (go_at_call 90; (with_reducible refine (decodeDesc_any x _ HXS.out HDD.out).mono ?_); rintro e w' ⟨rfl, hx⟩; replace HS := HS.grow hx; clear hx)
            | ((with_reducible (show wpList _ _ _ (Oper.mk (some 31) (Op.load _ _) _ _ _ _ :: _) _ _)); refine wpList_loadA_st (o := ⟨some 31, .load _ _, _, _, _, _⟩) rfl _ _ rfl rfl HS tk ag_impl_Ring lit rfl ?_)
            | ((with_reducible (show wpList _ _ _ (Oper.mk (some 36) (Op.load _ _) _ _ _ _ :: _) _ _)); refine wpList_loadA_st (o := ⟨some 36, .load _ _, _, _, _, _⟩) rfl _ _ rfl rfl HS tk ag_impl_Memory lit rfl ?_)
            | ((with_reducible (show wpList _ _ _ (Oper.mk (some 38) (Op.load _ _) _ _ _ _ :: _) _ _)); refine wpList_loadA_st (o := ⟨some 38, .load _ _, _, _, _, _⟩) rfl _ _ rfl rfl HS tk ag_impl_Ring lit rfl ?_)
            | ((with_reducible (show wpList _ _ _ (Oper.mk (some 14) (Op.alloc _) _ _ _ _ :: _) _ _)); refine wpList_alloc_st (o := ⟨some 14, .alloc _, _, _, _, _⟩) rfl _ rfl zc_impl_Ring HS ?_; clear HS; intro w14 b14 hb14 HS)
            | ((with_reducible (show wpList _ _ _ (Oper.mk none (Op.store _ (.tmp 14) _) _ _ _ _ :: _) _ _)); refine wpList_store_st (o := ⟨none, .store _ (.tmp 14) _, _, _, _, _⟩) rfl _ _ _ rfl rfl (v := .agg (List.toArray _)) rfl HS tk sz_impl_Ring vcs rfx rfx (by simp) ?_ rfl; clear HS; intro w7_11 hz7_11 HS; simp only [nicL, Value.cells, List.append_nil] at HS)
            | ((with_reducible (show wpList _ _ _ (Oper.mk (some 16) (Op.alloc _) _ _ _ _ :: _) _ _)); refine wpList_alloc_st (o := ⟨some 16, .alloc _, _, _, _, _⟩) rfl _ rfl zc_impl_Desc HS ?_; clear HS; intro w16 b16 hb16 HS)
            | ((with_reducible (show wpList _ _ _ (Oper.mk none (Op.store _ (.tmp 16) _) _ _ _ _ :: _) _ _)); refine wpList_store_st (o := ⟨none, .store _ (.tmp 16) _, _, _, _, _⟩) rfl _ _ _ rfl rfl (v := .agg (List.toArray _)) rfl HS tk sz_impl_Desc vcs rfx rfx (by simp) ?_ rfl; clear HS; intro w10_6 hz10_6 HS; simp only [nicL, Value.cells, List.append_nil] at HS))
      refine wp_region_plan_st (HS.arr (show Arr _ [rowA b11 _ _] from ary)) (.early 0 (.forced 1 1 (.forced 2 2 (.forced 3 2 .done)))) (by kernel_rfl) (by as_aux_lemma => kernel_rfl) ?_
      intro hne
      replace HS := HS.drew
      try go_simp
      repeat' (first
        | (with_reducible refine wpPlan_forced ?_)
        | ((with_reducible ((show wpPlan _ _ _ _ (.early 0 _) _ _))); (first | (refine wpPlan_skipE rfl rfl ?_; (try go_simp)) | (refine wpPlan_early rfl rfl ?_; intro K hK; (first | ((refine quiet_loadA_st  _ _ rfl rfl tk ag_impl_Ring lit rfl ?_); (try go_simp)) | go_big_quiet_op); (first | go_big_quiet_on | (refine ⟨_, fun _ => rfl, ?_⟩; go_big_quiet_on)))))
        | ((with_reducible ((show wpOne _ _ _ _ 1 1 _ _ _))); (first | (refine wpOne_skip rfl rfl ?_; (try go_simp)) | (refine wpOne_1 rfl rfl ?_; intro K hK; go_simp; refine hK _ _ ?_ ?_; (focus (exact stw HS)); clear hK K)))
        | ((with_reducible ((show wpOne _ _ _ _ 2 2 _ _ _))); (first | (refine wpOne_skip rfl rfl ?_; (try go_simp)) | (refine wpOne_2 rfl rfl ?_; intro K hK; (first | (refine wp_store_st  _ _ _ rfl rfl (v := .agg (List.toArray _)) rfl HS tk sz_impl_Ring vcs rfx rfx (by simp) ?_ rfl; clear HS; intro w12_2 hz12_2 HS; simp only [nicL, Value.cells, List.append_nil] at HS) | (refine wp_store_st  _ _ _ rfl rfl (v := .agg _) rfl HS tk sz_impl_Ring vcs rfx rfx (by simp) ?_ rfl; clear HS; intro w12_2 hz12_2 HS; simp only [nicL, Value.cells, List.append_nil] at HS)); (try go_simp); refine hK _ _ ?_; clear hK K)))
        | ((with_reducible ((show wpOne _ _ _ _ 3 2 _ _ _))); (first | (refine wpOne_skip rfl rfl ?_; (try go_simp)) | (refine wpOne_2 rfl rfl ?_; intro K hK; go_simp; refine hK _ _ ?_; clear hK K)))
        | (with_reducible refine wpPlan_done ?_))
      all_goals
        go_wp2
        replace HS := HS.empty (α := Dsc) none
        refine bodyPost_rets rfx (RVs.tmp rfx (RVs.cell rfx HS tk ag_impl_Ring rfx (RVs.tmp rfx RVs.nil))) (by simp) rfx ?_
        exact retChain HS tk
    case true =>
    have hdb := descB_iff.1 (decDF_true hDD)
    have HDO : Hid (Flat.ok (α := Dsc) (op, fl, ln, at_, sz, ck)) := hid (by
      show i64ok op ∧ i64ok fl ∧ i64ok ln ∧ i64ok at_ ∧ i64ok sz ∧ i64ok ck
      unfold i64ok; omega)
    obtain ⟨-, ⟨f0, f1⟩, -⟩ := hdb
    have ha : bits .and .i64 fl 1 = fl % 2 := and_mask_i64 _ 1 (by decide)
    by_cases hop : op = 1 ∧ fl % 2 = 1
    case pos =>
      have hr2 := HR.out
      rw [HOO.out, chainF, ← hT] at hr2
      simp only [← hDD] at hr2
      rw [if_pos hop] at hr2
      simp only [Prod.mk.injEq] at hr2
      obtain ⟨rfl, rfl, rfl⟩ := hr2
      obtain ⟨ho1, hf⟩ := hop
      rw [hf] at ha
      have ho2 : (op == 1) = true := by simp [ho1]
      clear ho1
      clear HOO HR hT hDD hf
      go_wp2_with (first
            | (go_at_call 88; (with_reducible refine (ringUsed_any b s h1 t HZ.out (by omega) (by omega) (by omega) (by omega) _).mono ?_); rintro e w' ⟨rfl, hx⟩; rw [HU.out]; replace HS := HS.grow hx; clear hx)
            | (go_at_call 89; (with_reducible refine (ringTake_any _ _ l ps d b s h1 t _ (k1.ex HS.ex) (k2.ex HS.ex) hd.out HT.out).mono ?_); rintro e w' ⟨rfl, hx⟩; replace HS := HS.grow hx; clear hx)
            | (go_at_call 90; (with_reducible refine (decodeDesc_any x _ HXS.out HDD.out).mono ?_); rintro e w' ⟨rfl, hx⟩; replace HS := HS.grow hx; clear hx)
            | ((with_reducible (show wpList _ _ _ (Oper.mk (some 31) (Op.load _ _) _ _ _ _ :: _) _ _)); refine wpList_loadA_st (o := ⟨some 31, .load _ _, _, _, _, _⟩) rfl _ _ rfl rfl HS tk ag_impl_Ring lit rfl ?_)
            | ((with_reducible (show wpList _ _ _ (Oper.mk (some 36) (Op.load _ _) _ _ _ _ :: _) _ _)); refine wpList_loadA_st (o := ⟨some 36, .load _ _, _, _, _, _⟩) rfl _ _ rfl rfl HS tk ag_impl_Memory lit rfl ?_)
            | ((with_reducible (show wpList _ _ _ (Oper.mk (some 38) (Op.load _ _) _ _ _ _ :: _) _ _)); refine wpList_loadA_st (o := ⟨some 38, .load _ _, _, _, _, _⟩) rfl _ _ rfl rfl HS tk ag_impl_Ring lit rfl ?_)
            | ((with_reducible (show wpList _ _ _ (Oper.mk (some 14) (Op.alloc _) _ _ _ _ :: _) _ _)); refine wpList_alloc_st (o := ⟨some 14, .alloc _, _, _, _, _⟩) rfl _ rfl zc_impl_Ring HS ?_; clear HS; intro w14 b14 hb14 HS)
            | ((with_reducible (show wpList _ _ _ (Oper.mk none (Op.store _ (.tmp 14) _) _ _ _ _ :: _) _ _)); refine wpList_store_st (o := ⟨none, .store _ (.tmp 14) _, _, _, _, _⟩) rfl _ _ _ rfl rfl (v := .agg (List.toArray _)) rfl HS tk sz_impl_Ring vcs rfx rfx (by simp) ?_ rfl; clear HS; intro w7_11 hz7_11 HS; simp only [nicL, Value.cells, List.append_nil] at HS)
            | ((with_reducible (show wpList _ _ _ (Oper.mk (some 16) (Op.alloc _) _ _ _ _ :: _) _ _)); refine wpList_alloc_st (o := ⟨some 16, .alloc _, _, _, _, _⟩) rfl _ rfl zc_impl_Desc HS ?_; clear HS; intro w16 b16 hb16 HS)
            | ((with_reducible (show wpList _ _ _ (Oper.mk none (Op.store _ (.tmp 16) _) _ _ _ _ :: _) _ _)); refine wpList_store_st (o := ⟨none, .store _ (.tmp 16) _, _, _, _, _⟩) rfl _ _ _ rfl rfl (v := .agg (List.toArray _)) rfl HS tk sz_impl_Desc vcs rfx rfx (by simp) ?_ rfl; clear HS; intro w10_6 hz10_6 HS; simp only [nicL, Value.cells, List.append_nil] at HS)
            | ((with_reducible (show wpList _ _ _ (Oper.mk (some 54) (Op.load _ _) _ _ _ _ :: _) _ _)); refine wpList_loadA_st (o := ⟨some 54, .load _ _, _, _, _, _⟩) rfl _ _ rfl rfl HS tk ag_impl_Ring lit rfl ?_)
            | ((with_reducible (show wpList _ _ _ (Oper.mk none (Op.store _ (.tmp 7) _) _ _ _ _ :: _) _ _)); refine wpList_store_st (o := ⟨none, .store _ (.tmp 7) _, _, _, _, _⟩) rfl _ _ _ rfl rfl (v := .agg (List.toArray _)) rfl HS tk sz_impl_Ring vcs rfx rfx (by simp) ?_ rfl; clear HS; intro w13_1 hz13_1 HS; simp only [nicL, Value.cells, List.append_nil] at HS)
            | ((with_reducible (show wpList _ _ _ (Oper.mk (some 56) (Op.load _ _) _ _ _ _ :: _) _ _)); refine wpList_loadA_st (o := ⟨some 56, .load _ _, _, _, _, _⟩) rfl _ _ rfl rfl HS tk ag_impl_Desc lit rfl ?_)
            | ((with_reducible (show wpList _ _ _ (Oper.mk (some 57) (Op.buildSlice _ _ _) _ _ _ _ :: _) _ _)); refine wpList_bslice1_st (o := ⟨some 57, .buildSlice _ _ _, _, _, _, _⟩) rfl _ _ rfl _ Try.underlying83 in_impl_Desc (by decide) (by decide) (x := .agg (List.toArray _)) rfl vcs rfx HS ?_; clear HS; intro w57 b57 hb57 HS)
            | ((with_reducible (show wpList _ _ _ (Oper.mk (some 58) (Op.call { callee := .builtin .append, args := _, argTypes := _ }) _ _ _ _ :: _) _ _)); refine wpList_appO_st (α := Dsc) (el := (op, fl, ln, at_, sz, ck)) (o := ⟨some 58, .call { callee := .builtin .append, args := _, argTypes := _ }, _, _, _, _⟩) rfl _ _ _ _ rfl _ Try.underlying83 in_impl_Desc rfl rfl HS tk rfl (Src.row HS tk Try.underlying83 rfx rfx) rfl (show Flat.ok (α := Dsc) _ from HDO.out) mxl (by omega) ?_; clear HS; intro a58 c58 w58 hb58 HS)
            | ((with_reducible (show wpList _ _ _ (Oper.mk (some 60) (Op.load _ _) _ _ _ _ :: _) _ _)); refine wpList_loadS_st (o := ⟨some 60, .load _ _, _, _, _, _⟩) rfl _ _ rfl rfl HS tk sc_int rfx ?_)
            | ((with_reducible (show wpList _ _ _ (Oper.mk (some 64) (Op.load _ _) _ _ _ _ :: _) _ _)); refine wpList_loadS_st (o := ⟨some 64, .load _ _, _, _, _, _⟩) rfl _ _ rfl rfl HS tk sc_int rfx ?_))
      refine wp_region_plan_st (HS.arr (show Arr _ [rowA b7 _ _] from ary)) (.early 0 (.early 1 (.forced 2 1 (.forced 3 2 (.forced 4 2 .done))))) (by kernel_rfl) (by as_aux_lemma => kernel_rfl) ?_
      intro hne
      replace HS := HS.drew
      try go_simp
      repeat' (first
        | (with_reducible refine wpPlan_forced ?_)
        | ((with_reducible ((show wpPlan _ _ _ _ (.early 0 _) _ _))); (first | (refine wpPlan_skipE rfl rfl ?_; (try go_simp)) | (refine wpPlan_early rfl rfl ?_; intro K hK; (first | go_big_quiet_op); (first | go_big_quiet_on | (refine ⟨_, fun _ => rfl, ?_⟩; go_big_quiet_on)))))
        | ((with_reducible ((show wpPlan _ _ _ _ (.early 1 _) _ _))); (first | (refine wpPlan_skipE rfl rfl ?_; (try go_simp)) | (refine wpPlan_early rfl rfl ?_; intro K hK; (first | ((refine quiet_loadA_st  _ _ rfl rfl tk ag_impl_Ring lit rfl ?_); (try go_simp)) | go_big_quiet_op); (first | go_big_quiet_on | (refine ⟨_, fun _ => rfl, ?_⟩; go_big_quiet_on)))))
        | ((with_reducible ((show wpOne _ _ _ _ 2 1 _ _ _))); (first | (refine wpOne_skip rfl rfl ?_; (try go_simp)) | (refine wpOne_1 rfl rfl ?_; intro K hK; go_simp; refine hK _ _ ?_ ?_; (focus (exact stw HS)); clear hK K)))
        | ((with_reducible ((show wpOne _ _ _ _ 3 2 _ _ _))); (first | (refine wpOne_skip rfl rfl ?_; (try go_simp)) | (refine wpOne_2 rfl rfl ?_; intro K hK; (first | (refine wp_store_st  _ _ _ rfl rfl (v := .agg (List.toArray _)) rfl HS tk sz_impl_Ring vcs rfx rfx (by simp) ?_ rfl; clear HS; intro w16_3 hz16_3 HS; simp only [nicL, Value.cells, List.append_nil] at HS) | (refine wp_store_st  _ _ _ rfl rfl (v := .agg _) rfl HS tk sz_impl_Ring vcs rfx rfx (by simp) ?_ rfl; clear HS; intro w16_3 hz16_3 HS; simp only [nicL, Value.cells, List.append_nil] at HS)); (try go_simp); refine hK _ _ ?_; clear hK K)))
        | ((with_reducible ((show wpOne _ _ _ _ 4 2 _ _ _))); (first | (refine wpOne_skip rfl rfl ?_; (try go_simp)) | (refine wpOne_2 rfl rfl ?_; intro K hK; go_simp; refine hK _ _ ?_; clear hK K)))
        | (with_reducible refine wpPlan_done ?_))
      all_goals
        go_wp2
        refine bodyPost_rets rfx (RVs.tmp rfx (RVs.cell rfx HS tk ag_impl_Ring rfx (RVs.tmp rfx RVs.nil))) (by simp) rfx ?_
        exact retChain HS tk
    case neg =>
      have HOO2 : Hid (O = chainF l ps d b s t m h2 (out ++ [(op, fl, ln, at_, sz, ck)])) := hid (by
        rw [HOO.out, chainF, ← hT]
        simp only [← hDD]
        rw [if_neg hop])
      clear HOO hT hDD
      by_cases ho1 : op = 1
      case pos =>
        have hf : fl % 2 = 0 := by have : ¬ fl % 2 = 1 := fun h => hop ⟨ho1, h⟩; omega
        rw [hf] at ha
        have ho2 : (op == 1) = true := by simp [ho1]
        clear hop hf ho1
        go_wp2_with (first
              | (go_at_call 88; (with_reducible refine (ringUsed_any b s h1 t HZ.out (by omega) (by omega) (by omega) (by omega) _).mono ?_); rintro e w' ⟨rfl, hx⟩; rw [HU.out]; replace HS := HS.grow hx; clear hx)
              | (go_at_call 89; (with_reducible refine (ringTake_any _ _ l ps d b s h1 t _ (k1.ex HS.ex) (k2.ex HS.ex) hd.out HT.out).mono ?_); rintro e w' ⟨rfl, hx⟩; replace HS := HS.grow hx; clear hx)
              | (go_at_call 90; (with_reducible refine (decodeDesc_any x _ HXS.out HDD.out).mono ?_); rintro e w' ⟨rfl, hx⟩; replace HS := HS.grow hx; clear hx)
              | ((with_reducible (show wpList _ _ _ (Oper.mk (some 31) (Op.load _ _) _ _ _ _ :: _) _ _)); refine wpList_loadA_st (o := ⟨some 31, .load _ _, _, _, _, _⟩) rfl _ _ rfl rfl HS tk ag_impl_Ring lit rfl ?_)
              | ((with_reducible (show wpList _ _ _ (Oper.mk (some 36) (Op.load _ _) _ _ _ _ :: _) _ _)); refine wpList_loadA_st (o := ⟨some 36, .load _ _, _, _, _, _⟩) rfl _ _ rfl rfl HS tk ag_impl_Memory lit rfl ?_)
              | ((with_reducible (show wpList _ _ _ (Oper.mk (some 38) (Op.load _ _) _ _ _ _ :: _) _ _)); refine wpList_loadA_st (o := ⟨some 38, .load _ _, _, _, _, _⟩) rfl _ _ rfl rfl HS tk ag_impl_Ring lit rfl ?_)
              | ((with_reducible (show wpList _ _ _ (Oper.mk (some 14) (Op.alloc _) _ _ _ _ :: _) _ _)); refine wpList_alloc_st (o := ⟨some 14, .alloc _, _, _, _, _⟩) rfl _ rfl zc_impl_Ring HS ?_; clear HS; intro w14 b14 hb14 HS)
              | ((with_reducible (show wpList _ _ _ (Oper.mk none (Op.store _ (.tmp 14) _) _ _ _ _ :: _) _ _)); refine wpList_store_st (o := ⟨none, .store _ (.tmp 14) _, _, _, _, _⟩) rfl _ _ _ rfl rfl (v := .agg (List.toArray _)) rfl HS tk sz_impl_Ring vcs rfx rfx (by simp) ?_ rfl; clear HS; intro w7_11 hz7_11 HS; simp only [nicL, Value.cells, List.append_nil] at HS)
              | ((with_reducible (show wpList _ _ _ (Oper.mk (some 16) (Op.alloc _) _ _ _ _ :: _) _ _)); refine wpList_alloc_st (o := ⟨some 16, .alloc _, _, _, _, _⟩) rfl _ rfl zc_impl_Desc HS ?_; clear HS; intro w16 b16 hb16 HS)
              | ((with_reducible (show wpList _ _ _ (Oper.mk none (Op.store _ (.tmp 16) _) _ _ _ _ :: _) _ _)); refine wpList_store_st (o := ⟨none, .store _ (.tmp 16) _, _, _, _, _⟩) rfl _ _ _ rfl rfl (v := .agg (List.toArray _)) rfl HS tk sz_impl_Desc vcs rfx rfx (by simp) ?_ rfl; clear HS; intro w10_6 hz10_6 HS; simp only [nicL, Value.cells, List.append_nil] at HS)
              | ((with_reducible (show wpList _ _ _ (Oper.mk (some 54) (Op.load _ _) _ _ _ _ :: _) _ _)); refine wpList_loadA_st (o := ⟨some 54, .load _ _, _, _, _, _⟩) rfl _ _ rfl rfl HS tk ag_impl_Ring lit rfl ?_)
              | ((with_reducible (show wpList _ _ _ (Oper.mk none (Op.store _ (.tmp 7) _) _ _ _ _ :: _) _ _)); refine wpList_store_st (o := ⟨none, .store _ (.tmp 7) _, _, _, _, _⟩) rfl _ _ _ rfl rfl (v := .agg (List.toArray _)) rfl HS tk sz_impl_Ring vcs rfx rfx (by simp) ?_ rfl; clear HS; intro w13_1 hz13_1 HS; simp only [nicL, Value.cells, List.append_nil] at HS)
              | ((with_reducible (show wpList _ _ _ (Oper.mk (some 56) (Op.load _ _) _ _ _ _ :: _) _ _)); refine wpList_loadA_st (o := ⟨some 56, .load _ _, _, _, _, _⟩) rfl _ _ rfl rfl HS tk ag_impl_Desc lit rfl ?_)
              | ((with_reducible (show wpList _ _ _ (Oper.mk (some 57) (Op.buildSlice _ _ _) _ _ _ _ :: _) _ _)); refine wpList_bslice1_st (o := ⟨some 57, .buildSlice _ _ _, _, _, _, _⟩) rfl _ _ rfl _ Try.underlying83 in_impl_Desc (by decide) (by decide) (x := .agg (List.toArray _)) rfl vcs rfx HS ?_; clear HS; intro w57 b57 hb57 HS)
              | ((with_reducible (show wpList _ _ _ (Oper.mk (some 58) (Op.call { callee := .builtin .append, args := _, argTypes := _ }) _ _ _ _ :: _) _ _)); refine wpList_appO_st (α := Dsc) (el := (op, fl, ln, at_, sz, ck)) (o := ⟨some 58, .call { callee := .builtin .append, args := _, argTypes := _ }, _, _, _, _⟩) rfl _ _ _ _ rfl _ Try.underlying83 in_impl_Desc rfl rfl HS tk rfl (Src.row HS tk Try.underlying83 rfx rfx) rfl (show Flat.ok (α := Dsc) _ from HDO.out) mxl (by omega) ?_; clear HS; intro a58 c58 w58 hb58 HS)
              | ((with_reducible (show wpList _ _ _ (Oper.mk (some 60) (Op.load _ _) _ _ _ _ :: _) _ _)); refine wpList_loadS_st (o := ⟨some 60, .load _ _, _, _, _, _⟩) rfl _ _ rfl rfl HS tk sc_int rfx ?_)
              | ((with_reducible (show wpList _ _ _ (Oper.mk (some 64) (Op.load _ _) _ _ _ _ :: _) _ _)); refine wpList_loadS_st (o := ⟨some 64, .load _ _, _, _, _, _⟩) rfl _ _ rfl rfl HS tk sc_int rfx ?_))
        go_roundw
        case rel => exact ⟨h2, m, out ++ [(op, fl, ln, at_, sz, ck)], _, _, HQ2, HU2, by rw [List.length_append]; simp; omega, HOO2, by rw [List.length_append]; rfl, by rw [List.length_append]; exact (HS.arr (by repeat (first | exact Arr.nil | (with_reducible exact take_all _) | (refine Arr.cons tk ?_) | (refine arr_skip ?_))))⟩
        case measure => simp [sliceLen]; omega
      case neg =>
        have ho2 : (op == 1) = false := by simp [ho1]
        clear hop
        go_wp2_with (first
              | (go_at_call 88; (with_reducible refine (ringUsed_any b s h1 t HZ.out (by omega) (by omega) (by omega) (by omega) _).mono ?_); rintro e w' ⟨rfl, hx⟩; rw [HU.out]; replace HS := HS.grow hx; clear hx)
              | (go_at_call 89; (with_reducible refine (ringTake_any _ _ l ps d b s h1 t _ (k1.ex HS.ex) (k2.ex HS.ex) hd.out HT.out).mono ?_); rintro e w' ⟨rfl, hx⟩; replace HS := HS.grow hx; clear hx)
              | (go_at_call 90; (with_reducible refine (decodeDesc_any x _ HXS.out HDD.out).mono ?_); rintro e w' ⟨rfl, hx⟩; replace HS := HS.grow hx; clear hx)
              | ((with_reducible (show wpList _ _ _ (Oper.mk (some 31) (Op.load _ _) _ _ _ _ :: _) _ _)); refine wpList_loadA_st (o := ⟨some 31, .load _ _, _, _, _, _⟩) rfl _ _ rfl rfl HS tk ag_impl_Ring lit rfl ?_)
              | ((with_reducible (show wpList _ _ _ (Oper.mk (some 36) (Op.load _ _) _ _ _ _ :: _) _ _)); refine wpList_loadA_st (o := ⟨some 36, .load _ _, _, _, _, _⟩) rfl _ _ rfl rfl HS tk ag_impl_Memory lit rfl ?_)
              | ((with_reducible (show wpList _ _ _ (Oper.mk (some 38) (Op.load _ _) _ _ _ _ :: _) _ _)); refine wpList_loadA_st (o := ⟨some 38, .load _ _, _, _, _, _⟩) rfl _ _ rfl rfl HS tk ag_impl_Ring lit rfl ?_)
              | ((with_reducible (show wpList _ _ _ (Oper.mk (some 14) (Op.alloc _) _ _ _ _ :: _) _ _)); refine wpList_alloc_st (o := ⟨some 14, .alloc _, _, _, _, _⟩) rfl _ rfl zc_impl_Ring HS ?_; clear HS; intro w14 b14 hb14 HS)
              | ((with_reducible (show wpList _ _ _ (Oper.mk none (Op.store _ (.tmp 14) _) _ _ _ _ :: _) _ _)); refine wpList_store_st (o := ⟨none, .store _ (.tmp 14) _, _, _, _, _⟩) rfl _ _ _ rfl rfl (v := .agg (List.toArray _)) rfl HS tk sz_impl_Ring vcs rfx rfx (by simp) ?_ rfl; clear HS; intro w7_11 hz7_11 HS; simp only [nicL, Value.cells, List.append_nil] at HS)
              | ((with_reducible (show wpList _ _ _ (Oper.mk (some 16) (Op.alloc _) _ _ _ _ :: _) _ _)); refine wpList_alloc_st (o := ⟨some 16, .alloc _, _, _, _, _⟩) rfl _ rfl zc_impl_Desc HS ?_; clear HS; intro w16 b16 hb16 HS)
              | ((with_reducible (show wpList _ _ _ (Oper.mk none (Op.store _ (.tmp 16) _) _ _ _ _ :: _) _ _)); refine wpList_store_st (o := ⟨none, .store _ (.tmp 16) _, _, _, _, _⟩) rfl _ _ _ rfl rfl (v := .agg (List.toArray _)) rfl HS tk sz_impl_Desc vcs rfx rfx (by simp) ?_ rfl; clear HS; intro w10_6 hz10_6 HS; simp only [nicL, Value.cells, List.append_nil] at HS)
              | ((with_reducible (show wpList _ _ _ (Oper.mk (some 54) (Op.load _ _) _ _ _ _ :: _) _ _)); refine wpList_loadA_st (o := ⟨some 54, .load _ _, _, _, _, _⟩) rfl _ _ rfl rfl HS tk ag_impl_Ring lit rfl ?_)
              | ((with_reducible (show wpList _ _ _ (Oper.mk none (Op.store _ (.tmp 7) _) _ _ _ _ :: _) _ _)); refine wpList_store_st (o := ⟨none, .store _ (.tmp 7) _, _, _, _, _⟩) rfl _ _ _ rfl rfl (v := .agg (List.toArray _)) rfl HS tk sz_impl_Ring vcs rfx rfx (by simp) ?_ rfl; clear HS; intro w13_1 hz13_1 HS; simp only [nicL, Value.cells, List.append_nil] at HS)
              | ((with_reducible (show wpList _ _ _ (Oper.mk (some 56) (Op.load _ _) _ _ _ _ :: _) _ _)); refine wpList_loadA_st (o := ⟨some 56, .load _ _, _, _, _, _⟩) rfl _ _ rfl rfl HS tk ag_impl_Desc lit rfl ?_)
              | ((with_reducible (show wpList _ _ _ (Oper.mk (some 57) (Op.buildSlice _ _ _) _ _ _ _ :: _) _ _)); refine wpList_bslice1_st (o := ⟨some 57, .buildSlice _ _ _, _, _, _, _⟩) rfl _ _ rfl _ Try.underlying83 in_impl_Desc (by decide) (by decide) (x := .agg (List.toArray _)) rfl vcs rfx HS ?_; clear HS; intro w57 b57 hb57 HS)
              | ((with_reducible (show wpList _ _ _ (Oper.mk (some 58) (Op.call { callee := .builtin .append, args := _, argTypes := _ }) _ _ _ _ :: _) _ _)); refine wpList_appO_st (α := Dsc) (el := (op, fl, ln, at_, sz, ck)) (o := ⟨some 58, .call { callee := .builtin .append, args := _, argTypes := _ }, _, _, _, _⟩) rfl _ _ _ _ rfl _ Try.underlying83 in_impl_Desc rfl rfl HS tk rfl (Src.row HS tk Try.underlying83 rfx rfx) rfl (show Flat.ok (α := Dsc) _ from HDO.out) mxl (by omega) ?_; clear HS; intro a58 c58 w58 hb58 HS)
              | ((with_reducible (show wpList _ _ _ (Oper.mk (some 60) (Op.load _ _) _ _ _ _ :: _) _ _)); refine wpList_loadS_st (o := ⟨some 60, .load _ _, _, _, _, _⟩) rfl _ _ rfl rfl HS tk sc_int rfx ?_))
        go_roundw
        case rel => exact ⟨h2, m, out ++ [(op, fl, ln, at_, sz, ck)], _, _, HQ2, HU2, by rw [List.length_append]; simp; omega, HOO2, by rw [List.length_append]; rfl, by rw [List.length_append]; exact (HS.arr (by repeat (first | exact Arr.nil | (with_reducible exact take_all _) | (refine Arr.cons tk ?_) | (refine arr_skip ?_))))⟩
        case measure => simp [sliceLen]; omega

set_option maxRecDepth 100000 in
set_option maxHeartbeats 4000000 in
theorem takeChainS_any (v1 v2 : Value) (l : List Mp) (ps : Pg) (d b s h t : Int) (w : World) (k1 : Holds w l [v1]) (k2 : Holds w ps [v2]) (hd : i64ok d) {ds : List Dsc} {h9 : Int} {ok : Bool} (hr : (ds, h9, ok) = tchainF l ps d b s h t) :
    Calls Try.prog 35 #[v1, .agg #[v2], .int .i64 d, .agg #[.int .i64 b, .int .i64 s, .int .i64 h, .int .i64 t]] w (RetChain w ds b s h9 t ok) := by
  obtain ⟨AA, cap, rfl, z1, z2⟩ := k1.fl
  unfold maxLen at z2
  obtain ⟨BB, cap2, rfl, y1, y2⟩ := k2.fl
  unfold maxLen at y2
  replace hd := hid hd
  cases hq : ringOkB b s h t
  case false =>
    have HQ := hid hq
    unfold tchainF at hr
    rw [hq, if_neg (by decide)] at hr
    simp only [Prod.mk.injEq] at hr
    obtain ⟨rfl, e2, rfl⟩ := hr
    replace e2 := e2.symm
    subst e2
    clear hq
    have HS := St.start w
    go_enter Try.func35, Try.ntmps35
    go_wp2_with (first
          | (go_at_call 83; (with_reducible refine (ringOkS_any b s h t _).mono ?_); rintro e w' ⟨rfl, hx⟩; rw [HQ.out]; replace HS := HS.grow hx; clear hx)
          | ((with_reducible (show wpList _ _ _ (Oper.mk (some 5) (Op.box _ _) _ _ _ _ :: _) _ _)); refine wpList_box_st (o := ⟨some 5, .box _ _, _, _, _, _⟩) rfl _ _ rfl (v := .agg (List.toArray _)) rfl HS ?_; clear HS; intro w5 b5 hb5 HS; simp only [Value.cells] at HS)
          | ((with_reducible (show wpList _ _ _ (Oper.mk (some 7) (Op.box _ _) _ _ _ _ :: _) _ _)); refine wpList_box_st (o := ⟨some 7, .box _ _, _, _, _, _⟩) rfl _ _ rfl (v := .agg (List.toArray _)) rfl HS ?_; clear HS; intro w7 b7 hb7 HS; simp only [Value.cells] at HS)
          | ((with_reducible (show wpList _ _ _ (Oper.mk (some 9) (Op.alloc _) _ _ _ _ :: _) _ _)); refine wpList_alloc_st (o := ⟨some 9, .alloc _, _, _, _, _⟩) rfl _ rfl zc_impl_Ring HS ?_; clear HS; intro w9 b9 hb9 HS)
          | ((with_reducible (show wpList _ _ _ (Oper.mk (some 17) (Op.buildSlice _ _ _) _ _ _ _ :: _) _ _)); refine wpList_bslice0_st (o := ⟨some 17, .buildSlice _ _ _, _, _, _, _⟩) rfl _ rfl _ Try.underlying83 in_impl_Desc HS ?_; clear HS; intro w17 b17 hb17 HS; replace HS := HS.slotMade 6 tk; replace HS := HS.shut (α := Dsc) (xs := []) tk rfl (fun _ h => by cases h))
          | ((with_reducible (show wpList _ _ _ (Oper.mk (some 18) (Op.load _ _) _ _ _ _ :: _) _ _)); refine wpList_loadA_st (o := ⟨some 18, .load _ _, _, _, _, _⟩) rfl _ _ rfl rfl HS tk ag_impl_Ring lit rfl ?_))
    refine wp_region_plan_st (HS.arr (show Arr _ [rowA b7 _ _] from ary)) (.early 0 (.early 1 (.forced 2 1 (.forced 3 2 (.forced 4 2 .done))))) (by kernel_rfl) (by as_aux_lemma => kernel_rfl) ?_
    intro hne
    replace HS := HS.drew
    try go_simp
    repeat' (first
      | (with_reducible refine wpPlan_forced ?_)
      | ((with_reducible ((show wpPlan _ _ _ _ (.early 0 _) _ _))); (first | (refine wpPlan_skipE rfl rfl ?_; (try go_simp)) | (refine wpPlan_early rfl rfl ?_; intro K hK; (first | go_big_quiet_op); (first | go_big_quiet_on | (refine ⟨_, fun _ => rfl, ?_⟩; go_big_quiet_on)))))
      | ((with_reducible ((show wpPlan _ _ _ _ (.early 1 _) _ _))); (first | (refine wpPlan_skipE rfl rfl ?_; (try go_simp)) | (refine wpPlan_early rfl rfl ?_; intro K hK; (first | ((refine quiet_loadA_st  _ _ rfl rfl tk ag_impl_Ring lit rfl ?_); (try go_simp)) | go_big_quiet_op); (first | go_big_quiet_on | (refine ⟨_, fun _ => rfl, ?_⟩; go_big_quiet_on)))))
      | ((with_reducible ((show wpOne _ _ _ _ 2 1 _ _ _))); (first | (refine wpOne_skip rfl rfl ?_; (try go_simp)) | (refine wpOne_1 rfl rfl ?_; intro K hK; go_simp; refine hK _ _ ?_ ?_; (focus (exact stw HS)); clear hK K)))
      | ((with_reducible ((show wpOne _ _ _ _ 3 2 _ _ _))); (first | (refine wpOne_skip rfl rfl ?_; (try go_simp)) | (refine wpOne_2 rfl rfl ?_; intro K hK; (first | (refine wp_store_st  _ _ _ rfl rfl (v := .agg (List.toArray _)) rfl HS tk sz_impl_Ring vcs rfx rfx (by simp) ?_ rfl; clear HS; intro w3_3 hz3_3 HS; simp only [nicL, Value.cells, List.append_nil] at HS) | (refine wp_store_st  _ _ _ rfl rfl (v := .agg _) rfl HS tk sz_impl_Ring vcs rfx rfx (by simp) ?_ rfl; clear HS; intro w3_3 hz3_3 HS; simp only [nicL, Value.cells, List.append_nil] at HS)); (try go_simp); refine hK _ _ ?_; clear hK K)))
      | ((with_reducible ((show wpOne _ _ _ _ 4 2 _ _ _))); (first | (refine wpOne_skip rfl rfl ?_; (try go_simp)) | (refine wpOne_2 rfl rfl ?_; intro K hK; go_simp; refine hK _ _ ?_; clear hK K)))
      | (with_reducible refine wpPlan_done ?_))
    all_goals
      go_wp2
      refine bodyPost_rets rfx (RVs.tmp rfx (RVs.cell rfx HS tk ag_impl_Ring rfx (RVs.tmp rfx RVs.nil))) (by simp) rfx ?_
      exact retChain HS tk
  case true =>
  have HQ := hid hq
  obtain ⟨hs, b0, b1, s0, s1, h0, h1b, t0, t1, u1, u0⟩ := ringOk_facts hq
  have HZ := hid hs
  obtain ⟨uv, huv⟩ : ∃ v, (t - h) % (2 * s) = v := ⟨_, rfl⟩
  have HU := hid huv
  unfold tchainF at hr
  rw [hq, if_pos rfl] at hr
  unfold usedF at hr
  rw [huv] at hr u0 u1
  by_cases hz : uv = 0
  case pos =>
    rw [if_pos hz] at hr
    simp only [Prod.mk.injEq] at hr
    obtain ⟨rfl, e2, rfl⟩ := hr
    replace e2 := e2.symm
    subst e2
    have z3 : (uv == 0) = true := by simp [hz]
    clear hz hs huv hq
    have HS := St.start w
    go_enter Try.func35, Try.ntmps35
    go_wp2_with (first
          | (go_at_call 83; (with_reducible refine (ringOkS_any b s h t _).mono ?_); rintro e w' ⟨rfl, hx⟩; rw [HQ.out]; replace HS := HS.grow hx; clear hx)
          | (go_at_call 84; (with_reducible refine (ringUsedS_any b s h t HZ.out (by omega) (by omega) (by omega) (by omega) _).mono ?_); rintro e w' ⟨rfl, hx⟩; rw [HU.out]; replace HS := HS.grow hx; clear hx)
          | ((with_reducible (show wpList _ _ _ (Oper.mk (some 5) (Op.box _ _) _ _ _ _ :: _) _ _)); refine wpList_box_st (o := ⟨some 5, .box _ _, _, _, _, _⟩) rfl _ _ rfl (v := .agg (List.toArray _)) rfl HS ?_; clear HS; intro w5 b5 hb5 HS; simp only [Value.cells] at HS)
          | ((with_reducible (show wpList _ _ _ (Oper.mk (some 7) (Op.box _ _) _ _ _ _ :: _) _ _)); refine wpList_box_st (o := ⟨some 7, .box _ _, _, _, _, _⟩) rfl _ _ rfl (v := .agg (List.toArray _)) rfl HS ?_; clear HS; intro w7 b7 hb7 HS; simp only [Value.cells] at HS)
          | ((with_reducible (show wpList _ _ _ (Oper.mk (some 9) (Op.alloc _) _ _ _ _ :: _) _ _)); refine wpList_alloc_st (o := ⟨some 9, .alloc _, _, _, _, _⟩) rfl _ rfl zc_impl_Ring HS ?_; clear HS; intro w9 b9 hb9 HS)
          | ((with_reducible (show wpList _ _ _ (Oper.mk (some 17) (Op.buildSlice _ _ _) _ _ _ _ :: _) _ _)); refine wpList_bslice0_st (o := ⟨some 17, .buildSlice _ _ _, _, _, _, _⟩) rfl _ rfl _ Try.underlying83 in_impl_Desc HS ?_; clear HS; intro w17 b17 hb17 HS; replace HS := HS.slotMade 6 tk; replace HS := HS.shut (α := Dsc) (xs := []) tk rfl (fun _ h => by cases h))
          | ((with_reducible (show wpList _ _ _ (Oper.mk (some 18) (Op.load _ _) _ _ _ _ :: _) _ _)); refine wpList_loadA_st (o := ⟨some 18, .load _ _, _, _, _, _⟩) rfl _ _ rfl rfl HS tk ag_impl_Ring lit rfl ?_)
          | ((with_reducible (show wpList _ _ _ (Oper.mk (some 22) (Op.load _ _) _ _ _ _ :: _) _ _)); refine wpList_loadA_st (o := ⟨some 22, .load _ _, _, _, _, _⟩) rfl _ _ rfl rfl HS tk ag_impl_Ring lit rfl ?_))
    refine wp_region_plan_st (HS.arr (show Arr _ [rowA b7 _ _] from ary)) (.early 0 (.early 1 (.forced 2 1 (.forced 3 2 (.forced 4 2 .done))))) (by kernel_rfl) (by as_aux_lemma => kernel_rfl) ?_
    intro hne
    replace HS := HS.drew
    try go_simp
    repeat' (first
      | (with_reducible refine wpPlan_forced ?_)
      | ((with_reducible ((show wpPlan _ _ _ _ (.early 0 _) _ _))); (first | (refine wpPlan_skipE rfl rfl ?_; (try go_simp)) | (refine wpPlan_early rfl rfl ?_; intro K hK; (first | go_big_quiet_op); (first | go_big_quiet_on | (refine ⟨_, fun _ => rfl, ?_⟩; go_big_quiet_on)))))
      | ((with_reducible ((show wpPlan _ _ _ _ (.early 1 _) _ _))); (first | (refine wpPlan_skipE rfl rfl ?_; (try go_simp)) | (refine wpPlan_early rfl rfl ?_; intro K hK; (first | ((refine quiet_loadA_st  _ _ rfl rfl tk ag_impl_Ring lit rfl ?_); (try go_simp)) | go_big_quiet_op); (first | go_big_quiet_on | (refine ⟨_, fun _ => rfl, ?_⟩; go_big_quiet_on)))))
      | ((with_reducible ((show wpOne _ _ _ _ 2 1 _ _ _))); (first | (refine wpOne_skip rfl rfl ?_; (try go_simp)) | (refine wpOne_1 rfl rfl ?_; intro K hK; go_simp; refine hK _ _ ?_ ?_; (focus (exact stw HS)); clear hK K)))
      | ((with_reducible ((show wpOne _ _ _ _ 3 2 _ _ _))); (first | (refine wpOne_skip rfl rfl ?_; (try go_simp)) | (refine wpOne_2 rfl rfl ?_; intro K hK; (first | (refine wp_store_st  _ _ _ rfl rfl (v := .agg (List.toArray _)) rfl HS tk sz_impl_Ring vcs rfx rfx (by simp) ?_ rfl; clear HS; intro w3_3 hz3_3 HS; simp only [nicL, Value.cells, List.append_nil] at HS) | (refine wp_store_st  _ _ _ rfl rfl (v := .agg _) rfl HS tk sz_impl_Ring vcs rfx rfx (by simp) ?_ rfl; clear HS; intro w3_3 hz3_3 HS; simp only [nicL, Value.cells, List.append_nil] at HS)); (try go_simp); refine hK _ _ ?_; clear hK K)))
      | ((with_reducible ((show wpOne _ _ _ _ 4 2 _ _ _))); (first | (refine wpOne_skip rfl rfl ?_; (try go_simp)) | (refine wpOne_2 rfl rfl ?_; intro K hK; go_simp; refine hK _ _ ?_; clear hK K)))
      | (with_reducible refine wpPlan_done ?_))
    all_goals
      go_wp2
      refine bodyPost_rets rfx (RVs.tmp rfx (RVs.cell rfx HS tk ag_impl_Ring rfx (RVs.tmp rfx RVs.nil))) (by simp) rfx ?_
      exact retChain HS tk
  case neg =>
  rw [if_neg hz] at hr
  have z3 : (uv == 0) = false := by simp [hz]
  obtain ⟨un, rfl⟩ := Int.eq_ofNat_of_zero_le u0
  rw [Int.toNat_natCast] at hr
  obtain ⟨O, hO⟩ : ∃ O, O = chainF l ps d b s t un h [] := ⟨_, rfl⟩
  rw [← hO] at hr
  have HR := hid hr
  have HO0 := hid hO
  have HUV : Hid (usedF s h t = (un : Int)) := hid huv
  clear hr hO hz hs hq huv
  have HS := St.start w
  go_enter Try.func35, Try.ntmps35
  go_wp2_with (first
        | (go_at_call 83; (with_reducible refine (ringOkS_any b s h t _).mono ?_); rintro e w' ⟨rfl, hx⟩; rw [HQ.out]; replace HS := HS.grow hx; clear hx)
        | (go_at_call 84; (with_reducible refine (ringUsedS_any b s h t HZ.out (by omega) (by omega) (by omega) (by omega) _).mono ?_); rintro e w' ⟨rfl, hx⟩; rw [HU.out]; replace HS := HS.grow hx; clear hx)
        | ((with_reducible (show wpList _ _ _ (Oper.mk (some 5) (Op.box _ _) _ _ _ _ :: _) _ _)); refine wpList_box_st (o := ⟨some 5, .box _ _, _, _, _, _⟩) rfl _ _ rfl (v := .agg (List.toArray _)) rfl HS ?_; clear HS; intro w5 b5 hb5 HS; simp only [Value.cells] at HS)
        | ((with_reducible (show wpList _ _ _ (Oper.mk (some 7) (Op.box _ _) _ _ _ _ :: _) _ _)); refine wpList_box_st (o := ⟨some 7, .box _ _, _, _, _, _⟩) rfl _ _ rfl (v := .agg (List.toArray _)) rfl HS ?_; clear HS; intro w7 b7 hb7 HS; simp only [Value.cells] at HS)
        | ((with_reducible (show wpList _ _ _ (Oper.mk (some 9) (Op.alloc _) _ _ _ _ :: _) _ _)); refine wpList_alloc_st (o := ⟨some 9, .alloc _, _, _, _, _⟩) rfl _ rfl zc_impl_Ring HS ?_; clear HS; intro w9 b9 hb9 HS)
        | ((with_reducible (show wpList _ _ _ (Oper.mk (some 17) (Op.buildSlice _ _ _) _ _ _ _ :: _) _ _)); refine wpList_bslice0_st (o := ⟨some 17, .buildSlice _ _ _, _, _, _, _⟩) rfl _ rfl _ Try.underlying83 in_impl_Desc HS ?_; clear HS; intro w17 b17 hb17 HS; replace HS := HS.slotMade 6 tk; replace HS := HS.shut (α := Dsc) (xs := []) tk rfl (fun _ h => by cases h))
        | ((with_reducible (show wpList _ _ _ (Oper.mk (some 18) (Op.load _ _) _ _ _ _ :: _) _ _)); refine wpList_loadA_st (o := ⟨some 18, .load _ _, _, _, _, _⟩) rfl _ _ rfl rfl HS tk ag_impl_Ring lit rfl ?_)
        | ((with_reducible (show wpList _ _ _ (Oper.mk (some 22) (Op.load _ _) _ _ _ _ :: _) _ _)); refine wpList_loadA_st (o := ⟨some 22, .load _ _, _, _, _, _⟩) rfl _ _ rfl rfl HS tk ag_impl_Ring lit rfl ?_))
  go_loopw [11] (fun ov wr => ∃ (h1 : Int) (n : Nat) (out : List Dsc) (A1 : Option Addr) (c1 : Nat), Hid (ringOkB b s h1 t = true) ∧ Hid (usedF s h1 t = (n : Int)) ∧ out.length + n ≤ 16 ∧ Hid (O = chainF l ps d b s t n h1 out) ∧ ov = .slice A1 out.length c1 ∧ St w wr [rowA b5 [.slice BB ps.length cap2] 27, rowA b7 [.int .i64 b, .int .i64 s, .int .i64 h1, .int .i64 t] 29, rowA b9 [.int .i64 0, .int .i64 0, .int .i64 0, .int .i64 0] 29, ownA out [.slice A1 out.length c1]]) (fun ov _ => 16 - sliceLen ov)
  case atStart => exact ⟨h, un, [], _, _, HQ, HUV, by simp; omega, HO0, rfl, (HS.arr (by repeat (first | exact Arr.nil | (with_reducible exact take_all _) | (refine Arr.cons tk ?_) | (refine arr_skip ?_))))⟩
  case round =>
    clear HS HQ HU HUV HO0
    obtain ⟨h1, n, out, A1, c1, HQ, HU, hn, HOO, rfl, HS⟩ := hrel
    replace HU : Hid ((t - h1) % (2 * s) = (n : Int)) := HU
    have hq := HQ.out
    clear h0 h1b u1 u0 b0 b1 s0 s1 t0 t1
    obtain ⟨hs, b0, b1, s0, s1, h0, h1b, t0, t1, u1, u0⟩ := ringOk_facts hq
    clear hq hs u1 u0
    by_cases hn0 : n = 0
    case pos =>
      subst hn0
      have hr2 := HR.out
      rw [HOO.out, chainF] at hr2
      simp only [Prod.mk.injEq] at hr2
      obtain ⟨e1, e2, rfl⟩ := hr2
      replace e1 := e1.symm
      subst e1
      replace e2 := e2.symm
      subst e2
      have e0 : ¬ ((0 : Int) < ((0 : Nat) : Int)) := by omega
      clear HOO HR
      go_wp2_with (first
            | (go_at_call 84; (with_reducible refine (ringUsedS_any b s h1 t HZ.out (by omega) (by omega) (by omega) (by omega) _).mono ?_); rintro e w' ⟨rfl, hx⟩; rw [HU.out]; replace HS := HS.grow hx; clear hx)
            | ((with_reducible (show wpList _ _ _ (Oper.mk (some 28) (Op.load _ _) _ _ _ _ :: _) _ _)); refine wpList_loadA_st (o := ⟨some 28, .load _ _, _, _, _, _⟩) rfl _ _ rfl rfl HS tk ag_impl_Ring lit rfl ?_))
      refine wp_region_plan_st (HS.arr (show Arr _ [rowA b7 _ _] from ary)) (.early 0 (.early 1 (.forced 2 1 (.forced 3 2 (.forced 4 2 .done))))) (by kernel_rfl) (by as_aux_lemma => kernel_rfl) ?_
      intro hne
      replace HS := HS.drew
      try go_simp
      repeat' (first
        | (with_reducible refine wpPlan_forced ?_)
        | ((with_reducible ((show wpPlan _ _ _ _ (.early 0 _) _ _))); (first | (refine wpPlan_skipE rfl rfl ?_; (try go_simp)) | (refine wpPlan_early rfl rfl ?_; intro K hK; (first | go_big_quiet_op); (first | go_big_quiet_on | (refine ⟨_, fun _ => rfl, ?_⟩; go_big_quiet_on)))))
        | ((with_reducible ((show wpPlan _ _ _ _ (.early 1 _) _ _))); (first | (refine wpPlan_skipE rfl rfl ?_; (try go_simp)) | (refine wpPlan_early rfl rfl ?_; intro K hK; (first | ((refine quiet_loadA_st  _ _ rfl rfl tk ag_impl_Ring lit rfl ?_); (try go_simp)) | go_big_quiet_op); (first | go_big_quiet_on | (refine ⟨_, fun _ => rfl, ?_⟩; go_big_quiet_on)))))
        | ((with_reducible ((show wpOne _ _ _ _ 2 1 _ _ _))); (first | (refine wpOne_skip rfl rfl ?_; (try go_simp)) | (refine wpOne_1 rfl rfl ?_; intro K hK; go_simp; refine hK _ _ ?_ ?_; (focus (exact stw HS)); clear hK K)))
        | ((with_reducible ((show wpOne _ _ _ _ 3 2 _ _ _))); (first | (refine wpOne_skip rfl rfl ?_; (try go_simp)) | (refine wpOne_2 rfl rfl ?_; intro K hK; (first | (refine wp_store_st  _ _ _ rfl rfl (v := .agg (List.toArray _)) rfl HS tk sz_impl_Ring vcs rfx rfx (by simp) ?_ rfl; clear HS; intro w13_3 hz13_3 HS; simp only [nicL, Value.cells, List.append_nil] at HS) | (refine wp_store_st  _ _ _ rfl rfl (v := .agg _) rfl HS tk sz_impl_Ring vcs rfx rfx (by simp) ?_ rfl; clear HS; intro w13_3 hz13_3 HS; simp only [nicL, Value.cells, List.append_nil] at HS)); (try go_simp); refine hK _ _ ?_; clear hK K)))
        | ((with_reducible ((show wpOne _ _ _ _ 4 2 _ _ _))); (first | (refine wpOne_skip rfl rfl ?_; (try go_simp)) | (refine wpOne_2 rfl rfl ?_; intro K hK; go_simp; refine hK _ _ ?_; clear hK K)))
        | (with_reducible refine wpPlan_done ?_))
      all_goals
        go_wp2
        refine bodyPost_rets rfx (RVs.tmp rfx (RVs.cell rfx HS tk ag_impl_Ring rfx (RVs.tmp rfx RVs.nil))) (by simp) rfx ?_
        exact retChain HS tk
    case neg =>
    obtain ⟨m, rfl⟩ : ∃ m, n = m + 1 := ⟨n - 1, by omega⟩
    clear hn0
    have e0 : (0 : Int) < ((m + 1 : Nat) : Int) := by omega
    obtain ⟨⟨x, h2, ok1⟩, hT⟩ : ∃ r, r = rtakeF l ps d b s h1 t := ⟨_, rfl⟩
    have HT := hid hT
    cases ok1
    case false =>
      have hr2 := HR.out
      rw [HOO.out, chainF, ← hT] at hr2
      simp only [Prod.mk.injEq] at hr2
      obtain ⟨rfl, e2, rfl⟩ := hr2
      replace e2 := e2.symm
      subst e2
      clear HOO HR
      obtain ⟨⟨⟨op, fl, ln, at_, sz, ck⟩, ok2⟩, hDD⟩ : ∃ r, r = decDF x := ⟨_, rfl⟩
      have HDD := hid hDD
      have HXS : Hid (x.size ≤ 9223372036854775807) := hid (by rw [rtakeF_false hT]; decide)
      clear hDD
      clear hT
      go_wp2_with (first
            | (go_at_call 84; (with_reducible refine (ringUsedS_any b s h1 t HZ.out (by omega) (by omega) (by omega) (by omega) _).mono ?_); rintro e w' ⟨rfl, hx⟩; rw [HU.out]; replace HS := HS.grow hx; clear hx)
            | (go_at_call 85; (with_reducible refine (ringTakeS_any _ _ l ps d b s h1 t _ (k1.ex HS.ex) (k2.ex HS.ex) hd.out HT.out).mono ?_); rintro e w' ⟨rfl, hx⟩; replace HS := HS.grow hx; clear hx)
            | (go_at_call 86; (with_reducible refine (decodeDescS_any x _ HXS.out HDD.out).mono ?_); rintro e w' ⟨rfl, hx⟩; replace HS := HS.grow hx; clear hx)
            | ((with_reducible (show wpList _ _ _ (Oper.mk (some 28) (Op.load _ _) _ _ _ _ :: _) _ _)); refine wpList_loadA_st (o := ⟨some 28, .load _ _, _, _, _, _⟩) rfl _ _ rfl rfl HS tk ag_impl_Ring lit rfl ?_)
            | ((with_reducible (show wpList _ _ _ (Oper.mk (some 33) (Op.load _ _) _ _ _ _ :: _) _ _)); refine wpList_loadA_st (o := ⟨some 33, .load _ _, _, _, _, _⟩) rfl _ _ rfl rfl HS tk ag_impl_Memory lit rfl ?_)
            | ((with_reducible (show wpList _ _ _ (Oper.mk (some 35) (Op.load _ _) _ _ _ _ :: _) _ _)); refine wpList_loadA_st (o := ⟨some 35, .load _ _, _, _, _, _⟩) rfl _ _ rfl rfl HS tk ag_impl_Ring lit rfl ?_)
            | ((with_reducible (show wpList _ _ _ (Oper.mk (some 13) (Op.alloc _) _ _ _ _ :: _) _ _)); refine wpList_alloc_st (o := ⟨some 13, .alloc _, _, _, _, _⟩) rfl _ rfl zc_impl_Ring HS ?_; clear HS; intro w13 b13 hb13 HS)
            | ((with_reducible (show wpList _ _ _ (Oper.mk none (Op.store _ (.tmp 13) _) _ _ _ _ :: _) _ _)); refine wpList_store_st (o := ⟨none, .store _ (.tmp 13) _, _, _, _, _⟩) rfl _ _ _ rfl rfl (v := .agg (List.toArray _)) rfl HS tk sz_impl_Ring vcs rfx rfx (by simp) ?_ rfl; clear HS; intro w5_11 hz5_11 HS; simp only [nicL, Value.cells, List.append_nil] at HS)
            | ((with_reducible (show wpList _ _ _ (Oper.mk (some 15) (Op.alloc _) _ _ _ _ :: _) _ _)); refine wpList_alloc_st (o := ⟨some 15, .alloc _, _, _, _, _⟩) rfl _ rfl zc_impl_Desc HS ?_; clear HS; intro w15 b15 hb15 HS)
            | ((with_reducible (show wpList _ _ _ (Oper.mk none (Op.store _ (.tmp 15) _) _ _ _ _ :: _) _ _)); refine wpList_store_st (o := ⟨none, .store _ (.tmp 15) _, _, _, _, _⟩) rfl _ _ _ rfl rfl (v := .agg (List.toArray _)) rfl HS tk sz_impl_Desc vcs rfx rfx (by simp) ?_ rfl; clear HS; intro w6_6 hz6_6 HS; simp only [nicL, Value.cells, List.append_nil] at HS)
            | ((with_reducible (show wpList _ _ _ (Oper.mk (some 52) (Op.load _ _) _ _ _ _ :: _) _ _)); refine wpList_loadS_st (o := ⟨some 52, .load _ _, _, _, _, _⟩) rfl _ _ rfl rfl HS tk sc_int rfx ?_)
            | ((with_reducible (show wpList _ _ _ (Oper.mk none (Op.store _ (.tmp 53) _) _ _ _ _ :: _) _ _)); refine wpList_store_st (o := ⟨none, .store _ (.tmp 53) _, _, _, _, _⟩) rfl _ _ _ rfl rfl (v := .int .i64 _) rfl HS tk sz_int vcs rfx rfx (by simp) ?_ rfl; clear HS; intro w8_3 hz8_3 HS; simp only [nicL, Value.cells, List.append_nil] at HS))
      refine wp_region_plan_st (HS.arr (show Arr _ [rowA b7 _ _] from ary)) (.early 1 (.forced 0 1 (.forced 2 1 (.forced 3 2 (.forced 4 2 .done))))) (by kernel_rfl) (by as_aux_lemma => kernel_rfl) ?_
      intro hne
      replace HS := HS.drew
      try go_simp
      repeat' (first
        | (with_reducible refine wpPlan_forced ?_)
        | ((with_reducible ((show wpPlan _ _ _ _ (.early 1 _) _ _))); (first | (refine wpPlan_skipE rfl rfl ?_; (try go_simp)) | (refine wpPlan_early rfl rfl ?_; intro K hK; (first | ((refine quiet_loadA_st  _ _ rfl rfl tk ag_impl_Ring lit rfl ?_); (try go_simp)) | go_big_quiet_op); (first | go_big_quiet_on | (refine ⟨_, fun _ => rfl, ?_⟩; go_big_quiet_on)))))
        | ((with_reducible ((show wpOne _ _ _ _ 0 1 _ _ _))); (first | (refine wpOne_skip rfl rfl ?_; (try go_simp)) | (refine wpOne_1 rfl rfl ?_; intro K hK; (first | (refine wp_bslice0_st  _ rfl _ Try.underlying83 in_impl_Desc HS ?_; clear HS; intro w54 b54 hb54 HS)); replace HS := HS.slotMade 6 tk; replace HS := HS.shut (α := Dsc) (xs := []) tk rfl (fun _ h => by cases h); (try go_simp); refine hK _ _ ?_ ?_; (focus (exact stw HS)); clear hK K)))
        | ((with_reducible ((show wpOne _ _ _ _ 2 1 _ _ _))); (first | (refine wpOne_skip rfl rfl ?_; (try go_simp)) | (refine wpOne_1 rfl rfl ?_; intro K hK; go_simp; refine hK _ _ ?_ ?_; (focus (exact stw HS)); clear hK K)))
        | ((with_reducible ((show wpOne _ _ _ _ 3 2 _ _ _))); (first | (refine wpOne_skip rfl rfl ?_; (try go_simp)) | (refine wpOne_2 rfl rfl ?_; intro K hK; (first | (refine wp_store_st  _ _ _ rfl rfl (v := .agg (List.toArray _)) rfl HS tk sz_impl_Ring vcs rfx rfx (by simp) ?_ rfl; clear HS; intro w9_3 hz9_3 HS; simp only [nicL, Value.cells, List.append_nil] at HS) | (refine wp_store_st  _ _ _ rfl rfl (v := .agg _) rfl HS tk sz_impl_Ring vcs rfx rfx (by simp) ?_ rfl; clear HS; intro w9_3 hz9_3 HS; simp only [nicL, Value.cells, List.append_nil] at HS)); (try go_simp); refine hK _ _ ?_; clear hK K)))
        | ((with_reducible ((show wpOne _ _ _ _ 4 2 _ _ _))); (first | (refine wpOne_skip rfl rfl ?_; (try go_simp)) | (refine wpOne_2 rfl rfl ?_; intro K hK; go_simp; refine hK _ _ ?_; clear hK K)))
        | (with_reducible refine wpPlan_done ?_))
      all_goals
        go_wp2
        refine bodyPost_rets rfx (RVs.tmp rfx (RVs.cell rfx HS tk ag_impl_Ring rfx (RVs.tmp rfx RVs.nil))) (by simp) rfx ?_
        exact retChain HS tk
    case true =>
    obtain ⟨q2, v2, x16⟩ := rtakeF_true HQ.out hT
    have HQ2 := hid q2
    have HU2 : Hid (usedF s h2 t = (m : Int)) := hid (by rw [v2]; show (t - h1) % (2 * s) - 1 = _; rw [HU.out]; omega)
    have HXS : Hid (x.size ≤ 9223372036854775807) := hid (by omega)
    obtain ⟨⟨⟨op, fl, ln, at_, sz, ck⟩, ok2⟩, hDD⟩ : ∃ r, r = decDF x := ⟨_, rfl⟩
    have HDD := hid hDD
    clear q2 v2 x16
    cases ok2
    case false =>
      have hr2 := HR.out
      rw [HOO.out, chainF, ← hT] at hr2
      simp only [← hDD] at hr2
      simp only [Prod.mk.injEq] at hr2
      obtain ⟨rfl, e2, rfl⟩ := hr2
      replace e2 := e2.symm
      subst e2
      clear HOO HR hT hDD
      go_wp2_with (first
            | (go_at_call 84; (with_reducible refine (ringUsedS_any b s h1 t HZ.out (by omega) (by omega) (by omega) (by omega) _).mono ?_); rintro e w' ⟨rfl, hx⟩; rw [HU.out]; replace HS := HS.grow hx; clear hx)
            | (go_at_call 85; (with_reducible refine (ringTakeS_any _ _ l ps d b s h1 t _ (k1.ex HS.ex) (k2.ex HS.ex) hd.out HT.out).mono ?_); rintro e w' ⟨rfl, hx⟩; replace HS := HS.grow hx; clear hx)
            | (go_at_call 86; (with_reducible refine (decodeDescS_any x _ HXS.out HDD.out).mono ?_); rintro e w' ⟨rfl, hx⟩; replace HS := HS.grow hx; clear hx)
            | ((with_reducible (show wpList _ _ _ (Oper.mk (some 28) (Op.load _ _) _ _ _ _ :: _) _ _)); refine wpList_loadA_st (o := ⟨some 28, .load _ _, _, _, _, _⟩) rfl _ _ rfl rfl HS tk ag_impl_Ring lit rfl ?_)
            | ((with_reducible (show wpList _ _ _ (Oper.mk (some 33) (Op.load _ _) _ _ _ _ :: _) _ _)); refine wpList_loadA_st (o := ⟨some 33, .load _ _, _, _, _, _⟩) rfl _ _ rfl rfl HS tk ag_impl_Memory lit rfl ?_)
            | ((with_reducible (show wpList _ _ _ (Oper.mk (some 35) (Op.load _ _) _ _ _ _ :: _) _ _)); refine wpList_loadA_st (o := ⟨some 35, .load _ _, _, _, _, _⟩) rfl _ _ rfl rfl HS tk ag_impl_Ring lit rfl ?_)
            | ((with_reducible (show wpList _ _ _ (Oper.mk (some 13) (Op.alloc _) _ _ _ _ :: _) _ _)); refine wpList_alloc_st (o := ⟨some 13, .alloc _, _, _, _, _⟩) rfl _ rfl zc_impl_Ring HS ?_; clear HS; intro w13 b13 hb13 HS)
            | ((with_reducible (show wpList _ _ _ (Oper.mk none (Op.store _ (.tmp 13) _) _ _ _ _ :: _) _ _)); refine wpList_store_st (o := ⟨none, .store _ (.tmp 13) _, _, _, _, _⟩) rfl _ _ _ rfl rfl (v := .agg (List.toArray _)) rfl HS tk sz_impl_Ring vcs rfx rfx (by simp) ?_ rfl; clear HS; intro w5_11 hz5_11 HS; simp only [nicL, Value.cells, List.append_nil] at HS)
            | ((with_reducible (show wpList _ _ _ (Oper.mk (some 15) (Op.alloc _) _ _ _ _ :: _) _ _)); refine wpList_alloc_st (o := ⟨some 15, .alloc _, _, _, _, _⟩) rfl _ rfl zc_impl_Desc HS ?_; clear HS; intro w15 b15 hb15 HS)
            | ((with_reducible (show wpList _ _ _ (Oper.mk none (Op.store _ (.tmp 15) _) _ _ _ _ :: _) _ _)); refine wpList_store_st (o := ⟨none, .store _ (.tmp 15) _, _, _, _, _⟩) rfl _ _ _ rfl rfl (v := .agg (List.toArray _)) rfl HS tk sz_impl_Desc vcs rfx rfx (by simp) ?_ rfl; clear HS; intro w6_6 hz6_6 HS; simp only [nicL, Value.cells, List.append_nil] at HS)
            | ((with_reducible (show wpList _ _ _ (Oper.mk (some 52) (Op.load _ _) _ _ _ _ :: _) _ _)); refine wpList_loadS_st (o := ⟨some 52, .load _ _, _, _, _, _⟩) rfl _ _ rfl rfl HS tk sc_int rfx ?_)
            | ((with_reducible (show wpList _ _ _ (Oper.mk none (Op.store _ (.tmp 53) _) _ _ _ _ :: _) _ _)); refine wpList_store_st (o := ⟨none, .store _ (.tmp 53) _, _, _, _, _⟩) rfl _ _ _ rfl rfl (v := .int .i64 _) rfl HS tk sz_int vcs rfx rfx (by simp) ?_ rfl; clear HS; intro w8_3 hz8_3 HS; simp only [nicL, Value.cells, List.append_nil] at HS))
      refine wp_region_plan_st (HS.arr (show Arr _ [rowA b7 _ _] from ary)) (.early 1 (.forced 0 1 (.forced 2 1 (.forced 3 2 (.forced 4 2 .done))))) (by kernel_rfl) (by as_aux_lemma => kernel_rfl) ?_
      intro hne
      replace HS := HS.drew
      try go_simp
      repeat' (first
        | (with_reducible refine wpPlan_forced ?_)
        | ((with_reducible ((show wpPlan _ _ _ _ (.early 1 _) _ _))); (first | (refine wpPlan_skipE rfl rfl ?_; (try go_simp)) | (refine wpPlan_early rfl rfl ?_; intro K hK; (first | ((refine quiet_loadA_st  _ _ rfl rfl tk ag_impl_Ring lit rfl ?_); (try go_simp)) | go_big_quiet_op); (first | go_big_quiet_on | (refine ⟨_, fun _ => rfl, ?_⟩; go_big_quiet_on)))))
        | ((with_reducible ((show wpOne _ _ _ _ 0 1 _ _ _))); (first | (refine wpOne_skip rfl rfl ?_; (try go_simp)) | (refine wpOne_1 rfl rfl ?_; intro K hK; (first | (refine wp_bslice0_st  _ rfl _ Try.underlying83 in_impl_Desc HS ?_; clear HS; intro w54 b54 hb54 HS)); replace HS := HS.slotMade 6 tk; replace HS := HS.shut (α := Dsc) (xs := []) tk rfl (fun _ h => by cases h); (try go_simp); refine hK _ _ ?_ ?_; (focus (exact stw HS)); clear hK K)))
        | ((with_reducible ((show wpOne _ _ _ _ 2 1 _ _ _))); (first | (refine wpOne_skip rfl rfl ?_; (try go_simp)) | (refine wpOne_1 rfl rfl ?_; intro K hK; go_simp; refine hK _ _ ?_ ?_; (focus (exact stw HS)); clear hK K)))
        | ((with_reducible ((show wpOne _ _ _ _ 3 2 _ _ _))); (first | (refine wpOne_skip rfl rfl ?_; (try go_simp)) | (refine wpOne_2 rfl rfl ?_; intro K hK; (first | (refine wp_store_st  _ _ _ rfl rfl (v := .agg (List.toArray _)) rfl HS tk sz_impl_Ring vcs rfx rfx (by simp) ?_ rfl; clear HS; intro w9_3 hz9_3 HS; simp only [nicL, Value.cells, List.append_nil] at HS) | (refine wp_store_st  _ _ _ rfl rfl (v := .agg _) rfl HS tk sz_impl_Ring vcs rfx rfx (by simp) ?_ rfl; clear HS; intro w9_3 hz9_3 HS; simp only [nicL, Value.cells, List.append_nil] at HS)); (try go_simp); refine hK _ _ ?_; clear hK K)))
        | ((with_reducible ((show wpOne _ _ _ _ 4 2 _ _ _))); (first | (refine wpOne_skip rfl rfl ?_; (try go_simp)) | (refine wpOne_2 rfl rfl ?_; intro K hK; go_simp; refine hK _ _ ?_; clear hK K)))
        | (with_reducible refine wpPlan_done ?_))
      all_goals
        go_wp2
        refine bodyPost_rets rfx (RVs.tmp rfx (RVs.cell rfx HS tk ag_impl_Ring rfx (RVs.tmp rfx RVs.nil))) (by simp) rfx ?_
        exact retChain HS tk
    case true =>
    have hdb := descB_iff.1 (decDF_true hDD)
    have HDO : Hid (Flat.ok (α := Dsc) (op, fl, ln, at_, sz, ck)) := hid (by
      show i64ok op ∧ i64ok fl ∧ i64ok ln ∧ i64ok at_ ∧ i64ok sz ∧ i64ok ck
      unfold i64ok; omega)
    obtain ⟨-, ⟨f0, f1⟩, -⟩ := hdb
    have ha : bits .and .i64 fl 1 = fl % 2 := and_mask_i64 _ 1 (by decide)
    by_cases hop : op = 1 ∧ fl % 2 = 1
    case pos =>
      have hr2 := HR.out
      rw [HOO.out, chainF, ← hT] at hr2
      simp only [← hDD] at hr2
      rw [if_pos hop] at hr2
      simp only [Prod.mk.injEq] at hr2
      obtain ⟨rfl, rfl, rfl⟩ := hr2
      obtain ⟨ho1, hf⟩ := hop
      rw [hf] at ha
      have ho2 : (op == 1) = true := by simp [ho1]
      clear ho1
      clear HOO HR hT hDD hf
      go_wp2_with (first
            | (go_at_call 84; (with_reducible refine (ringUsedS_any b s h1 t HZ.out (by omega) (by omega) (by omega) (by omega) _).mono ?_); rintro e w' ⟨rfl, hx⟩; rw [HU.out]; replace HS := HS.grow hx; clear hx)
            | (go_at_call 85; (with_reducible refine (ringTakeS_any _ _ l ps d b s h1 t _ (k1.ex HS.ex) (k2.ex HS.ex) hd.out HT.out).mono ?_); rintro e w' ⟨rfl, hx⟩; replace HS := HS.grow hx; clear hx)
            | (go_at_call 86; (with_reducible refine (decodeDescS_any x _ HXS.out HDD.out).mono ?_); rintro e w' ⟨rfl, hx⟩; replace HS := HS.grow hx; clear hx)
            | ((with_reducible (show wpList _ _ _ (Oper.mk (some 28) (Op.load _ _) _ _ _ _ :: _) _ _)); refine wpList_loadA_st (o := ⟨some 28, .load _ _, _, _, _, _⟩) rfl _ _ rfl rfl HS tk ag_impl_Ring lit rfl ?_)
            | ((with_reducible (show wpList _ _ _ (Oper.mk (some 33) (Op.load _ _) _ _ _ _ :: _) _ _)); refine wpList_loadA_st (o := ⟨some 33, .load _ _, _, _, _, _⟩) rfl _ _ rfl rfl HS tk ag_impl_Memory lit rfl ?_)
            | ((with_reducible (show wpList _ _ _ (Oper.mk (some 35) (Op.load _ _) _ _ _ _ :: _) _ _)); refine wpList_loadA_st (o := ⟨some 35, .load _ _, _, _, _, _⟩) rfl _ _ rfl rfl HS tk ag_impl_Ring lit rfl ?_)
            | ((with_reducible (show wpList _ _ _ (Oper.mk (some 13) (Op.alloc _) _ _ _ _ :: _) _ _)); refine wpList_alloc_st (o := ⟨some 13, .alloc _, _, _, _, _⟩) rfl _ rfl zc_impl_Ring HS ?_; clear HS; intro w13 b13 hb13 HS)
            | ((with_reducible (show wpList _ _ _ (Oper.mk none (Op.store _ (.tmp 13) _) _ _ _ _ :: _) _ _)); refine wpList_store_st (o := ⟨none, .store _ (.tmp 13) _, _, _, _, _⟩) rfl _ _ _ rfl rfl (v := .agg (List.toArray _)) rfl HS tk sz_impl_Ring vcs rfx rfx (by simp) ?_ rfl; clear HS; intro w5_11 hz5_11 HS; simp only [nicL, Value.cells, List.append_nil] at HS)
            | ((with_reducible (show wpList _ _ _ (Oper.mk (some 15) (Op.alloc _) _ _ _ _ :: _) _ _)); refine wpList_alloc_st (o := ⟨some 15, .alloc _, _, _, _, _⟩) rfl _ rfl zc_impl_Desc HS ?_; clear HS; intro w15 b15 hb15 HS)
            | ((with_reducible (show wpList _ _ _ (Oper.mk none (Op.store _ (.tmp 15) _) _ _ _ _ :: _) _ _)); refine wpList_store_st (o := ⟨none, .store _ (.tmp 15) _, _, _, _, _⟩) rfl _ _ _ rfl rfl (v := .agg (List.toArray _)) rfl HS tk sz_impl_Desc vcs rfx rfx (by simp) ?_ rfl; clear HS; intro w6_6 hz6_6 HS; simp only [nicL, Value.cells, List.append_nil] at HS)
            | ((with_reducible (show wpList _ _ _ (Oper.mk (some 56) (Op.load _ _) _ _ _ _ :: _) _ _)); refine wpList_loadA_st (o := ⟨some 56, .load _ _, _, _, _, _⟩) rfl _ _ rfl rfl HS tk ag_impl_Ring lit rfl ?_)
            | ((with_reducible (show wpList _ _ _ (Oper.mk none (Op.store _ (.tmp 7) _) _ _ _ _ :: _) _ _)); refine wpList_store_st (o := ⟨none, .store _ (.tmp 7) _, _, _, _, _⟩) rfl _ _ _ rfl rfl (v := .agg (List.toArray _)) rfl HS tk sz_impl_Ring vcs rfx rfx (by simp) ?_ rfl; clear HS; intro w10_1 hz10_1 HS; simp only [nicL, Value.cells, List.append_nil] at HS)
            | ((with_reducible (show wpList _ _ _ (Oper.mk (some 58) (Op.load _ _) _ _ _ _ :: _) _ _)); refine wpList_loadA_st (o := ⟨some 58, .load _ _, _, _, _, _⟩) rfl _ _ rfl rfl HS tk ag_impl_Desc lit rfl ?_)
            | ((with_reducible (show wpList _ _ _ (Oper.mk (some 59) (Op.buildSlice _ _ _) _ _ _ _ :: _) _ _)); refine wpList_bslice1_st (o := ⟨some 59, .buildSlice _ _ _, _, _, _, _⟩) rfl _ _ rfl _ Try.underlying83 in_impl_Desc (by decide) (by decide) (x := .agg (List.toArray _)) rfl vcs rfx HS ?_; clear HS; intro w59 b59 hb59 HS)
            | ((with_reducible (show wpList _ _ _ (Oper.mk (some 60) (Op.call { callee := .builtin .append, args := _, argTypes := _ }) _ _ _ _ :: _) _ _)); refine wpList_appO_st (α := Dsc) (el := (op, fl, ln, at_, sz, ck)) (o := ⟨some 60, .call { callee := .builtin .append, args := _, argTypes := _ }, _, _, _, _⟩) rfl _ _ _ _ rfl _ Try.underlying83 in_impl_Desc rfl rfl HS tk rfl (Src.row HS tk Try.underlying83 rfx rfx) rfl (show Flat.ok (α := Dsc) _ from HDO.out) mxl (by omega) ?_; clear HS; intro a60 c60 w60 hb60 HS)
            | ((with_reducible (show wpList _ _ _ (Oper.mk (some 62) (Op.load _ _) _ _ _ _ :: _) _ _)); refine wpList_loadS_st (o := ⟨some 62, .load _ _, _, _, _, _⟩) rfl _ _ rfl rfl HS tk sc_int rfx ?_)
            | ((with_reducible (show wpList _ _ _ (Oper.mk (some 66) (Op.load _ _) _ _ _ _ :: _) _ _)); refine wpList_loadS_st (o := ⟨some 66, .load _ _, _, _, _, _⟩) rfl _ _ rfl rfl HS tk sc_int rfx ?_))
      refine wp_region_plan_st (HS.arr (show Arr _ [rowA b7 _ _] from ary)) (.early 0 (.early 1 (.forced 2 1 (.forced 3 2 (.forced 4 2 .done))))) (by kernel_rfl) (by as_aux_lemma => kernel_rfl) ?_
      intro hne
      replace HS := HS.drew
      try go_simp
      repeat' (first
        | (with_reducible refine wpPlan_forced ?_)
        | ((with_reducible ((show wpPlan _ _ _ _ (.early 0 _) _ _))); (first | (refine wpPlan_skipE rfl rfl ?_; (try go_simp)) | (refine wpPlan_early rfl rfl ?_; intro K hK; (first | go_big_quiet_op); (first | go_big_quiet_on | (refine ⟨_, fun _ => rfl, ?_⟩; go_big_quiet_on)))))
        | ((with_reducible ((show wpPlan _ _ _ _ (.early 1 _) _ _))); (first | (refine wpPlan_skipE rfl rfl ?_; (try go_simp)) | (refine wpPlan_early rfl rfl ?_; intro K hK; (first | ((refine quiet_loadA_st  _ _ rfl rfl tk ag_impl_Ring lit rfl ?_); (try go_simp)) | go_big_quiet_op); (first | go_big_quiet_on | (refine ⟨_, fun _ => rfl, ?_⟩; go_big_quiet_on)))))
        | ((with_reducible ((show wpOne _ _ _ _ 2 1 _ _ _))); (first | (refine wpOne_skip rfl rfl ?_; (try go_simp)) | (refine wpOne_1 rfl rfl ?_; intro K hK; go_simp; refine hK _ _ ?_ ?_; (focus (exact stw HS)); clear hK K)))
        | ((with_reducible ((show wpOne _ _ _ _ 3 2 _ _ _))); (first | (refine wpOne_skip rfl rfl ?_; (try go_simp)) | (refine wpOne_2 rfl rfl ?_; intro K hK; (first | (refine wp_store_st  _ _ _ rfl rfl (v := .agg (List.toArray _)) rfl HS tk sz_impl_Ring vcs rfx rfx (by simp) ?_ rfl; clear HS; intro w13_3 hz13_3 HS; simp only [nicL, Value.cells, List.append_nil] at HS) | (refine wp_store_st  _ _ _ rfl rfl (v := .agg _) rfl HS tk sz_impl_Ring vcs rfx rfx (by simp) ?_ rfl; clear HS; intro w13_3 hz13_3 HS; simp only [nicL, Value.cells, List.append_nil] at HS)); (try go_simp); refine hK _ _ ?_; clear hK K)))
        | ((with_reducible ((show wpOne _ _ _ _ 4 2 _ _ _))); (first | (refine wpOne_skip rfl rfl ?_; (try go_simp)) | (refine wpOne_2 rfl rfl ?_; intro K hK; go_simp; refine hK _ _ ?_; clear hK K)))
        | (with_reducible refine wpPlan_done ?_))
      all_goals
        go_wp2
        refine bodyPost_rets rfx (RVs.tmp rfx (RVs.cell rfx HS tk ag_impl_Ring rfx (RVs.tmp rfx RVs.nil))) (by simp) rfx ?_
        exact retChain HS tk
    case neg =>
      have HOO2 : Hid (O = chainF l ps d b s t m h2 (out ++ [(op, fl, ln, at_, sz, ck)])) := hid (by
        rw [HOO.out, chainF, ← hT]
        simp only [← hDD]
        rw [if_neg hop])
      clear HOO hT hDD
      by_cases ho1 : op = 1
      case pos =>
        have hf : fl % 2 = 0 := by have : ¬ fl % 2 = 1 := fun h => hop ⟨ho1, h⟩; omega
        rw [hf] at ha
        have ho2 : (op == 1) = true := by simp [ho1]
        clear hop hf ho1
        go_wp2_with (first
              | (go_at_call 84; (with_reducible refine (ringUsedS_any b s h1 t HZ.out (by omega) (by omega) (by omega) (by omega) _).mono ?_); rintro e w' ⟨rfl, hx⟩; rw [HU.out]; replace HS := HS.grow hx; clear hx)
              | (go_at_call 85; (with_reducible refine (ringTakeS_any _ _ l ps d b s h1 t _ (k1.ex HS.ex) (k2.ex HS.ex) hd.out HT.out).mono ?_); rintro e w' ⟨rfl, hx⟩; replace HS := HS.grow hx; clear hx)
              | (go_at_call 86; (with_reducible refine (decodeDescS_any x _ HXS.out HDD.out).mono ?_); rintro e w' ⟨rfl, hx⟩; replace HS := HS.grow hx; clear hx)
              | ((with_reducible (show wpList _ _ _ (Oper.mk (some 28) (Op.load _ _) _ _ _ _ :: _) _ _)); refine wpList_loadA_st (o := ⟨some 28, .load _ _, _, _, _, _⟩) rfl _ _ rfl rfl HS tk ag_impl_Ring lit rfl ?_)
              | ((with_reducible (show wpList _ _ _ (Oper.mk (some 33) (Op.load _ _) _ _ _ _ :: _) _ _)); refine wpList_loadA_st (o := ⟨some 33, .load _ _, _, _, _, _⟩) rfl _ _ rfl rfl HS tk ag_impl_Memory lit rfl ?_)
              | ((with_reducible (show wpList _ _ _ (Oper.mk (some 35) (Op.load _ _) _ _ _ _ :: _) _ _)); refine wpList_loadA_st (o := ⟨some 35, .load _ _, _, _, _, _⟩) rfl _ _ rfl rfl HS tk ag_impl_Ring lit rfl ?_)
              | ((with_reducible (show wpList _ _ _ (Oper.mk (some 13) (Op.alloc _) _ _ _ _ :: _) _ _)); refine wpList_alloc_st (o := ⟨some 13, .alloc _, _, _, _, _⟩) rfl _ rfl zc_impl_Ring HS ?_; clear HS; intro w13 b13 hb13 HS)
              | ((with_reducible (show wpList _ _ _ (Oper.mk none (Op.store _ (.tmp 13) _) _ _ _ _ :: _) _ _)); refine wpList_store_st (o := ⟨none, .store _ (.tmp 13) _, _, _, _, _⟩) rfl _ _ _ rfl rfl (v := .agg (List.toArray _)) rfl HS tk sz_impl_Ring vcs rfx rfx (by simp) ?_ rfl; clear HS; intro w5_11 hz5_11 HS; simp only [nicL, Value.cells, List.append_nil] at HS)
              | ((with_reducible (show wpList _ _ _ (Oper.mk (some 15) (Op.alloc _) _ _ _ _ :: _) _ _)); refine wpList_alloc_st (o := ⟨some 15, .alloc _, _, _, _, _⟩) rfl _ rfl zc_impl_Desc HS ?_; clear HS; intro w15 b15 hb15 HS)
              | ((with_reducible (show wpList _ _ _ (Oper.mk none (Op.store _ (.tmp 15) _) _ _ _ _ :: _) _ _)); refine wpList_store_st (o := ⟨none, .store _ (.tmp 15) _, _, _, _, _⟩) rfl _ _ _ rfl rfl (v := .agg (List.toArray _)) rfl HS tk sz_impl_Desc vcs rfx rfx (by simp) ?_ rfl; clear HS; intro w6_6 hz6_6 HS; simp only [nicL, Value.cells, List.append_nil] at HS)
              | ((with_reducible (show wpList _ _ _ (Oper.mk (some 56) (Op.load _ _) _ _ _ _ :: _) _ _)); refine wpList_loadA_st (o := ⟨some 56, .load _ _, _, _, _, _⟩) rfl _ _ rfl rfl HS tk ag_impl_Ring lit rfl ?_)
              | ((with_reducible (show wpList _ _ _ (Oper.mk none (Op.store _ (.tmp 7) _) _ _ _ _ :: _) _ _)); refine wpList_store_st (o := ⟨none, .store _ (.tmp 7) _, _, _, _, _⟩) rfl _ _ _ rfl rfl (v := .agg (List.toArray _)) rfl HS tk sz_impl_Ring vcs rfx rfx (by simp) ?_ rfl; clear HS; intro w10_1 hz10_1 HS; simp only [nicL, Value.cells, List.append_nil] at HS)
              | ((with_reducible (show wpList _ _ _ (Oper.mk (some 58) (Op.load _ _) _ _ _ _ :: _) _ _)); refine wpList_loadA_st (o := ⟨some 58, .load _ _, _, _, _, _⟩) rfl _ _ rfl rfl HS tk ag_impl_Desc lit rfl ?_)
              | ((with_reducible (show wpList _ _ _ (Oper.mk (some 59) (Op.buildSlice _ _ _) _ _ _ _ :: _) _ _)); refine wpList_bslice1_st (o := ⟨some 59, .buildSlice _ _ _, _, _, _, _⟩) rfl _ _ rfl _ Try.underlying83 in_impl_Desc (by decide) (by decide) (x := .agg (List.toArray _)) rfl vcs rfx HS ?_; clear HS; intro w59 b59 hb59 HS)
              | ((with_reducible (show wpList _ _ _ (Oper.mk (some 60) (Op.call { callee := .builtin .append, args := _, argTypes := _ }) _ _ _ _ :: _) _ _)); refine wpList_appO_st (α := Dsc) (el := (op, fl, ln, at_, sz, ck)) (o := ⟨some 60, .call { callee := .builtin .append, args := _, argTypes := _ }, _, _, _, _⟩) rfl _ _ _ _ rfl _ Try.underlying83 in_impl_Desc rfl rfl HS tk rfl (Src.row HS tk Try.underlying83 rfx rfx) rfl (show Flat.ok (α := Dsc) _ from HDO.out) mxl (by omega) ?_; clear HS; intro a60 c60 w60 hb60 HS)
              | ((with_reducible (show wpList _ _ _ (Oper.mk (some 62) (Op.load _ _) _ _ _ _ :: _) _ _)); refine wpList_loadS_st (o := ⟨some 62, .load _ _, _, _, _, _⟩) rfl _ _ rfl rfl HS tk sc_int rfx ?_)
              | ((with_reducible (show wpList _ _ _ (Oper.mk (some 66) (Op.load _ _) _ _ _ _ :: _) _ _)); refine wpList_loadS_st (o := ⟨some 66, .load _ _, _, _, _, _⟩) rfl _ _ rfl rfl HS tk sc_int rfx ?_))
        go_roundw
        case rel => exact ⟨h2, m, out ++ [(op, fl, ln, at_, sz, ck)], _, _, HQ2, HU2, by rw [List.length_append]; simp; omega, HOO2, by rw [List.length_append]; rfl, by rw [List.length_append]; exact (HS.arr (by repeat (first | exact Arr.nil | (with_reducible exact take_all _) | (refine Arr.cons tk ?_) | (refine arr_skip ?_))))⟩
        case measure => simp [sliceLen]; omega
      case neg =>
        have ho2 : (op == 1) = false := by simp [ho1]
        clear hop
        go_wp2_with (first
              | (go_at_call 84; (with_reducible refine (ringUsedS_any b s h1 t HZ.out (by omega) (by omega) (by omega) (by omega) _).mono ?_); rintro e w' ⟨rfl, hx⟩; rw [HU.out]; replace HS := HS.grow hx; clear hx)
              | (go_at_call 85; (with_reducible refine (ringTakeS_any _ _ l ps d b s h1 t _ (k1.ex HS.ex) (k2.ex HS.ex) hd.out HT.out).mono ?_); rintro e w' ⟨rfl, hx⟩; replace HS := HS.grow hx; clear hx)
              | (go_at_call 86; (with_reducible refine (decodeDescS_any x _ HXS.out HDD.out).mono ?_); rintro e w' ⟨rfl, hx⟩; replace HS := HS.grow hx; clear hx)
              | ((with_reducible (show wpList _ _ _ (Oper.mk (some 28) (Op.load _ _) _ _ _ _ :: _) _ _)); refine wpList_loadA_st (o := ⟨some 28, .load _ _, _, _, _, _⟩) rfl _ _ rfl rfl HS tk ag_impl_Ring lit rfl ?_)
              | ((with_reducible (show wpList _ _ _ (Oper.mk (some 33) (Op.load _ _) _ _ _ _ :: _) _ _)); refine wpList_loadA_st (o := ⟨some 33, .load _ _, _, _, _, _⟩) rfl _ _ rfl rfl HS tk ag_impl_Memory lit rfl ?_)
              | ((with_reducible (show wpList _ _ _ (Oper.mk (some 35) (Op.load _ _) _ _ _ _ :: _) _ _)); refine wpList_loadA_st (o := ⟨some 35, .load _ _, _, _, _, _⟩) rfl _ _ rfl rfl HS tk ag_impl_Ring lit rfl ?_)
              | ((with_reducible (show wpList _ _ _ (Oper.mk (some 13) (Op.alloc _) _ _ _ _ :: _) _ _)); refine wpList_alloc_st (o := ⟨some 13, .alloc _, _, _, _, _⟩) rfl _ rfl zc_impl_Ring HS ?_; clear HS; intro w13 b13 hb13 HS)
              | ((with_reducible (show wpList _ _ _ (Oper.mk none (Op.store _ (.tmp 13) _) _ _ _ _ :: _) _ _)); refine wpList_store_st (o := ⟨none, .store _ (.tmp 13) _, _, _, _, _⟩) rfl _ _ _ rfl rfl (v := .agg (List.toArray _)) rfl HS tk sz_impl_Ring vcs rfx rfx (by simp) ?_ rfl; clear HS; intro w5_11 hz5_11 HS; simp only [nicL, Value.cells, List.append_nil] at HS)
              | ((with_reducible (show wpList _ _ _ (Oper.mk (some 15) (Op.alloc _) _ _ _ _ :: _) _ _)); refine wpList_alloc_st (o := ⟨some 15, .alloc _, _, _, _, _⟩) rfl _ rfl zc_impl_Desc HS ?_; clear HS; intro w15 b15 hb15 HS)
              | ((with_reducible (show wpList _ _ _ (Oper.mk none (Op.store _ (.tmp 15) _) _ _ _ _ :: _) _ _)); refine wpList_store_st (o := ⟨none, .store _ (.tmp 15) _, _, _, _, _⟩) rfl _ _ _ rfl rfl (v := .agg (List.toArray _)) rfl HS tk sz_impl_Desc vcs rfx rfx (by simp) ?_ rfl; clear HS; intro w6_6 hz6_6 HS; simp only [nicL, Value.cells, List.append_nil] at HS)
              | ((with_reducible (show wpList _ _ _ (Oper.mk (some 56) (Op.load _ _) _ _ _ _ :: _) _ _)); refine wpList_loadA_st (o := ⟨some 56, .load _ _, _, _, _, _⟩) rfl _ _ rfl rfl HS tk ag_impl_Ring lit rfl ?_)
              | ((with_reducible (show wpList _ _ _ (Oper.mk none (Op.store _ (.tmp 7) _) _ _ _ _ :: _) _ _)); refine wpList_store_st (o := ⟨none, .store _ (.tmp 7) _, _, _, _, _⟩) rfl _ _ _ rfl rfl (v := .agg (List.toArray _)) rfl HS tk sz_impl_Ring vcs rfx rfx (by simp) ?_ rfl; clear HS; intro w10_1 hz10_1 HS; simp only [nicL, Value.cells, List.append_nil] at HS)
              | ((with_reducible (show wpList _ _ _ (Oper.mk (some 58) (Op.load _ _) _ _ _ _ :: _) _ _)); refine wpList_loadA_st (o := ⟨some 58, .load _ _, _, _, _, _⟩) rfl _ _ rfl rfl HS tk ag_impl_Desc lit rfl ?_)
              | ((with_reducible (show wpList _ _ _ (Oper.mk (some 59) (Op.buildSlice _ _ _) _ _ _ _ :: _) _ _)); refine wpList_bslice1_st (o := ⟨some 59, .buildSlice _ _ _, _, _, _, _⟩) rfl _ _ rfl _ Try.underlying83 in_impl_Desc (by decide) (by decide) (x := .agg (List.toArray _)) rfl vcs rfx HS ?_; clear HS; intro w59 b59 hb59 HS)
              | ((with_reducible (show wpList _ _ _ (Oper.mk (some 60) (Op.call { callee := .builtin .append, args := _, argTypes := _ }) _ _ _ _ :: _) _ _)); refine wpList_appO_st (α := Dsc) (el := (op, fl, ln, at_, sz, ck)) (o := ⟨some 60, .call { callee := .builtin .append, args := _, argTypes := _ }, _, _, _, _⟩) rfl _ _ _ _ rfl _ Try.underlying83 in_impl_Desc rfl rfl HS tk rfl (Src.row HS tk Try.underlying83 rfx rfx) rfl (show Flat.ok (α := Dsc) _ from HDO.out) mxl (by omega) ?_; clear HS; intro a60 c60 w60 hb60 HS)
              | ((with_reducible (show wpList _ _ _ (Oper.mk (some 62) (Op.load _ _) _ _ _ _ :: _) _ _)); refine wpList_loadS_st (o := ⟨some 62, .load _ _, _, _, _, _⟩) rfl _ _ rfl rfl HS tk sc_int rfx ?_))
        go_roundw
        case rel => exact ⟨h2, m, out ++ [(op, fl, ln, at_, sz, ck)], _, _, HQ2, HU2, by rw [List.length_append]; simp; omega, HOO2, by rw [List.length_append]; rfl, by rw [List.length_append]; exact (HS.arr (by repeat (first | exact Arr.nil | (with_reducible exact take_all _) | (refine Arr.cons tk ?_) | (refine arr_skip ?_))))⟩
        case measure => simp [sliceLen]; omega

end Go.Proofs.Ytelkplponnfkpaa
