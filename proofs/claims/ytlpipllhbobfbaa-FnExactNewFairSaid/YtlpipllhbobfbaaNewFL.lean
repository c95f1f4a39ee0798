/- The walk of FnExactNewFair. -/
import Derived.Test.YtlpipllhbobfbaaRows
import Derived.Test.YtlpipllhbobfbaaNewF
import Derived.Test.YtlpipllhbobfbaaMarkF
namespace Go.Proofs.Ytlpipllhbobfbaa
open Go.RowKit
set_option linter.unusedVariables false
set_option linter.unusedSimpArgs false

set_option maxRecDepth 100000 in
set_option maxHeartbeats 8000000 in
theorem walk_FnExactNewFair (w : World) (aQueues : Int) (haQueues : i64ok aQueues) (aQuantum : Int) (haQuantum : i64ok aQuantum) :
    Calls Try.prog 10 #[.int .i64 aQueues, .int .i64 aQuantum] w fun e w' => e = .returned (.bool true) ∧ Ex w w' := by
  obtain ⟨ok, hok⟩ : ∃ b, b = newOk aQueues aQuantum := ⟨_, rfl⟩
  obtain ⟨m, hm⟩ : ∃ m : Nat, (m : Int) = if inB aQueues 1 8 then aQueues else 0 := by
    cases h : inB aQueues 1 8
    · exact ⟨0, rfl⟩
    · have := inB_iff.1 h
      exact ⟨aQueues.toNat, by simp; omega⟩
  have hm8 : m ≤ 8 := by
    cases h : inB aQueues 1 8
    · rw [h] at hm; simp at hm; omega
    · rw [h] at hm; have := inB_iff.1 h; simp at hm; omega
  obtain ⟨qs, hqs⟩ : ∃ q : List (List Int), q = if ok then List.replicate m [] else [] := ⟨_, rfl⟩
  obtain ⟨ds, hds⟩ : ∃ q : List Int, q = if ok then List.replicate m 0 else [] := ⟨_, rfl⟩
  obtain ⟨q2, hq2⟩ : ∃ q : Int, q = if ok then aQuantum else 0 := ⟨_, rfl⟩
  have hz : ∀ m : Nat, totL (List.replicate m []) = 0 := by
    intro m; induction m with
    | zero => rfl
    | succ m ih => simp [List.replicate_succ, totL, ih]
  have ht : totL qs ≤ 100 := by rw [hqs]; split <;> simp [hz, totL]
  have hl : ds.length ≤ 100 := by rw [hds]; split <;> simp; omega
  have HOK := hid hok
  have HM := hid hm
  have HQS := hid hqs
  have HDS := hid hds
  have HQ2 := hid hq2
  clear hok hm hqs hds hq2 hz haQueues haQuantum
  have HS := St.start w
  cases ok
  all_goals
    go_enter Try.func10, Try.ntmps10
    go_wp2_with (first
          | (go_at_call 50; (with_reducible refine (newFairS_any _ _ _ HOK.out HM.out HQS.out HDS.out HQ2.out).mono ?_); rintro e w' ⟨a1, c1, a2, c2, rfl, ho, hx⟩; replace HS := (HS.own (vs := [_] ++ [_]) ho hx).split rfl; clear ho hx)
          | (go_at_call 51; (with_reducible refine (newFair_any _ _ _ HOK.out HM.out HQS.out HDS.out HQ2.out).mono ?_); rintro e w' ⟨a1, c1, a2, c2, rfl, ho, hx⟩; replace HS := (HS.own (vs := [_] ++ [_]) ho hx).split rfl; clear ho hx)
          | (go_at_call 45; (with_reducible refine (eqFair_same _ _ _ _ qs ds _ _ _ _ (HS.holds (by repeat (first | exact Take.head | apply Take.tail))) (HS.holds (by repeat (first | exact Take.head | apply Take.tail))) (HS.holds (by repeat (first | exact Take.head | apply Take.tail))) (HS.holds (by repeat (first | exact Take.head | apply Take.tail)))).mono ?_); rintro e w' ⟨rfl, hx⟩; replace HS := HS.grow hx; clear hx)
          | (go_at_call 52; (with_reducible refine (markFair_st _ _ qs ds _ _ _ 1 HS (by repeat (first | exact Take.head | apply Take.tail)) (by repeat (first | exact Take.head | apply Take.tail)) (by omega) (by omega)).mono ?_); rintro e w' ⟨rfl, HS9⟩; clear HS; have HS := HS9; clear HS9)
          | (go_at_call 53; (with_reducible refine (heldFair_any _ _ qs ds _ _ _ 1 _ (HS.holds (by repeat (first | exact Take.head | apply Take.tail))) (HS.holds (by repeat (first | exact Take.head | apply Take.tail))) (by omega) (by omega)).mono ?_); rintro e w' ⟨rfl, hx⟩; replace HS := HS.grow hx; clear hx)
          | (refine wpList_alloc_st (o := ⟨some 5, .alloc _, _, _, _, _⟩) rfl _ rfl zc_impl_Fair HS ?_; clear HS; intro w5 b5 hb5 HS)
          | (refine wpList_store_st (o := ⟨none, .store _ (.tmp 5) _, _, _, _, _⟩) rfl _ _ _ rfl rfl (v := .agg (List.toArray _)) rfl HS (by repeat (first | exact Take.head | apply Take.tail)) sz_impl_Fair (by simp only [Value.cells]; rfl) (by rfl) (by rfl) (by simp) ?_ rfl; clear HS; intro w1_7 hz1_7 HS; simp only [nicL, Value.cells, List.append_nil] at HS)
          | (refine wpList_store_st (o := ⟨none, .store _ (.tmp 5) _, _, _, _, _⟩) rfl _ _ _ rfl rfl (v := .agg _) rfl HS (by repeat (first | exact Take.head | apply Take.tail)) sz_impl_Fair (by simp only [Value.cells]; rfl) (by rfl) (by rfl) (by simp) ?_ rfl; clear HS; intro w1_7 hz1_7 HS; simp only [nicL, Value.cells, List.append_nil] at HS)
          | (refine wpList_alloc_st (o := ⟨some 7, .alloc _, _, _, _, _⟩) rfl _ rfl zc_impl_Fair HS ?_; clear HS; intro w7 b7 hb7 HS)
          | (refine wpList_store_st (o := ⟨none, .store _ (.tmp 7) _, _, _, _, _⟩) rfl _ _ _ rfl rfl (v := .agg (List.toArray _)) rfl HS (by repeat (first | exact Take.head | apply Take.tail)) sz_impl_Fair (by simp only [Value.cells]; rfl) (by rfl) (by rfl) (by simp) ?_ rfl; clear HS; intro w2_7 hz2_7 HS; simp only [nicL, Value.cells, List.append_nil] at HS)
          | (refine wpList_store_st (o := ⟨none, .store _ (.tmp 7) _, _, _, _, _⟩) rfl _ _ _ rfl rfl (v := .agg _) rfl HS (by repeat (first | exact Take.head | apply Take.tail)) sz_impl_Fair (by simp only [Value.cells]; rfl) (by rfl) (by rfl) (by simp) ?_ rfl; clear HS; intro w2_7 hz2_7 HS; simp only [nicL, Value.cells, List.append_nil] at HS)
          | (refine wpList_loadA_st (o := ⟨some 25, .load _ _, _, _, _, _⟩) rfl _ _ rfl rfl HS (by repeat (first | exact Take.head | apply Take.tail)) ag_impl_Fair (by simp only [List.drop_succ_cons, List.drop_zero, List.take_succ_cons, List.take_zero, List.take_nil]; rfl) rfl ?_)
          | (refine wpList_loadA_st (o := ⟨some 26, .load _ _, _, _, _, _⟩) rfl _ _ rfl rfl HS (by repeat (first | exact Take.head | apply Take.tail)) ag_impl_Fair (by simp only [List.drop_succ_cons, List.drop_zero, List.take_succ_cons, List.take_zero, List.take_nil]; rfl) rfl ?_)
          | (refine wpList_loadA_st (o := ⟨some 34, .load _ _, _, _, _, _⟩) rfl _ _ rfl rfl HS (by repeat (first | exact Take.head | apply Take.tail)) ag_impl_Fair (by simp only [List.drop_succ_cons, List.drop_zero, List.take_succ_cons, List.take_zero, List.take_nil]; rfl) rfl ?_)
          | (refine wpList_loadA_st (o := ⟨some 37, .load _ _, _, _, _, _⟩) rfl _ _ rfl rfl HS (by repeat (first | exact Take.head | apply Take.tail)) ag_impl_Fair (by simp only [List.drop_succ_cons, List.drop_zero, List.take_succ_cons, List.take_zero, List.take_nil]; rfl) rfl ?_)
          | (refine wpList_alloc_st (o := ⟨some 11, .alloc _, _, _, _, _⟩) rfl _ rfl zc_impl_Fair HS ?_; clear HS; intro w11 b11 hb11 HS)
          | (refine wpList_store_st (o := ⟨none, .store _ (.tmp 11) _, _, _, _, _⟩) rfl _ _ _ rfl rfl (v := .agg (List.toArray _)) rfl HS (by repeat (first | exact Take.head | apply Take.tail)) sz_impl_Fair (by simp only [Value.cells]; rfl) (by rfl) (by rfl) (by simp) ?_ rfl; clear HS; intro w13_7 hz13_7 HS; simp only [nicL, Value.cells, List.append_nil] at HS)
          | (refine wpList_store_st (o := ⟨none, .store _ (.tmp 11) _, _, _, _, _⟩) rfl _ _ _ rfl rfl (v := .agg _) rfl HS (by repeat (first | exact Take.head | apply Take.tail)) sz_impl_Fair (by simp only [Value.cells]; rfl) (by rfl) (by rfl) (by simp) ?_ rfl; clear HS; intro w13_7 hz13_7 HS; simp only [nicL, Value.cells, List.append_nil] at HS)
          | (refine wpList_loadA_st (o := ⟨some 51, .load _ _, _, _, _, _⟩) rfl _ _ rfl rfl HS (by repeat (first | exact Take.head | apply Take.tail)) ag_impl_Fair (by simp only [List.drop_succ_cons, List.drop_zero, List.take_succ_cons, List.take_zero, List.take_nil]; rfl) rfl ?_)
          | (refine wpList_loadA_st (o := ⟨some 52, .load _ _, _, _, _, _⟩) rfl _ _ rfl rfl HS (by repeat (first | exact Take.head | apply Take.tail)) ag_impl_Fair (by simp only [List.drop_succ_cons, List.drop_zero, List.take_succ_cons, List.take_zero, List.take_nil]; rfl) rfl ?_)
          | (refine wpList_loadA_st (o := ⟨some 60, .load _ _, _, _, _, _⟩) rfl _ _ rfl rfl HS (by repeat (first | exact Take.head | apply Take.tail)) ag_impl_Fair (by simp only [List.drop_succ_cons, List.drop_zero, List.take_succ_cons, List.take_zero, List.take_nil]; rfl) rfl ?_))
    go_ret
    exact ⟨rfl, HS.ex⟩

end Go.Proofs.Ytlpipllhbobfbaa
