/- ServeFrame of both. -/
import Derived.Test.YtigepcpmdhcenaaRows
import Derived.Test.YtigepcpmdhcenaaServeA
import Derived.Test.YtigepcpmdhcenaaCopyB
namespace Go.Proofs.Ytigepcpmdhcenaa
open Go.RowKit
set_option linter.unusedVariables false
set_option linter.unusedSimpArgs false

def noneFrom (l : List (List Int)) (k : Nat) : Bool := noneLeft (l.drop k)
theorem noneFrom_step {l : List (List Int)} {k : Nat} (h : k < l.length) : noneFrom l k = (decide (l[k].length = 0) && noneFrom l (k + 1)) := by
  unfold noneFrom noneLeft
  rw [List.drop_eq_getElem_cons h, List.all_cons]
set_option maxRecDepth 100000 in
set_option maxHeartbeats 2000000 in
theorem allEmpty_any (v1 v2 : Value) (qs : List (List Int)) (ds : List Int) (qu tu : Int) (fr : Bool) (w : World) (k1 : Holds w qs [v1]) {q : Bool} (hq : q = noneLeft qs) :
    Calls Try.prog 23 #[.agg #[v1, v2, .int .i64 qu, .int .i64 tu, .bool fr]] w fun e w' => e = .returned (.bool q) ∧ Ex w w' := by
  obtain ⟨a, cap, hv, m1, m2, m3⟩ := k1.slices
  simp only [List.cons.injEq, and_true] at hv
  subst hv
  unfold maxLen at m2
  have M3 := hid m3
  have HQ := hid hq
  clear m3 hq
  have HS := St.start w
  go_enter Try.func23, Try.ntmps23
  go_wp2_with (first
        | ((with_reducible (show wpList _ _ _ (Oper.mk (some 1) (Op.box _ _) _ _ _ _ :: _) _ _)); refine wpList_box_st (o := ⟨some 1, .box _ _, _, _, _, _⟩) rfl _ _ rfl (v := .agg (List.toArray _)) rfl HS ?_; clear HS; intro w1 b1 hb1 HS; simp only [Value.cells] at HS)
        | ((with_reducible (show wpList _ _ _ (Oper.mk (some 1) (Op.box _ _) _ _ _ _ :: _) _ _)); refine wpList_box_st (o := ⟨some 1, .box _ _, _, _, _, _⟩) rfl _ _ rfl (v := .agg _) rfl HS ?_; clear HS; intro w1 b1 hb1 HS; simp only [Value.cells] at HS)
        | ((with_reducible (show wpList _ _ _ (Oper.mk (some 6) (Op.load _ _) _ _ _ _ :: _) _ _)); refine wpList_loadS_st (o := ⟨some 6, .load _ _, _, _, _, _⟩) rfl _ _ rfl rfl HS (by first | ((repeat (first | (with_reducible exact Take.head) | apply Take.tail)); done) | ((repeat (first | exact Take.head | apply Take.tail)); done)) sc_SSint (by rfl) ?_)
        | ((with_reducible (show wpList _ _ _ (Oper.mk (some 11) (Op.load _ _) _ _ _ _ :: _) _ _)); refine wpList_loadS_st (o := ⟨some 11, .load _ _, _, _, _, _⟩) rfl _ _ rfl rfl HS (by first | ((repeat (first | (with_reducible exact Take.head) | apply Take.tail)); done) | ((repeat (first | exact Take.head | apply Take.tail)); done)) sc_Sint (by rfl) ?_))
  go_loopw [8] (fun i wr => ∃ k : Nat, i = .int .i64 k ∧ k ≤ qs.length ∧ noneLeft qs = noneFrom qs k ∧ St w wr [rowA b1 [.slice a qs.length cap, v2, .int .i64 qu, .int .i64 tu, .bool fr] 27]) (fun i _ => qs.length - (intOf i).toNat)
  case atStart => exact ⟨0, rfl, Nat.zero_le _, by unfold noneFrom; rfl, HS⟩
  case round =>
    clear HS
    obtain ⟨k, rfl, hk, hn, HS⟩ := hrel
    by_cases hlt : k < qs.length
    case pos =>
      obtain ⟨b, off, a3, c3, rfl, hc, hh⟩ := M3.out k hlt
      replace hc := (HS.ex.cell (World.block_lt_of_cell? _ _ hc)).trans hc
      rw [noneFrom_step hlt] at hn
      generalize hy : qs[k] = y at *
      cases h0 : decide (y.length = 0)
      case true =>
        have h1 := of_decide_eq_true h0
        rw [h0, Bool.true_and] at hn
        have HN := hid hn
        clear hn h0 hy
        go_wp2_with (first
          | ((with_reducible (show wpList _ _ _ (Oper.mk (some 1) (Op.box _ _) _ _ _ _ :: _) _ _)); refine wpList_box_st (o := ⟨some 1, .box _ _, _, _, _, _⟩) rfl _ _ rfl (v := .agg (List.toArray _)) rfl HS ?_; clear HS; intro w1 b1 hb1 HS; simp only [Value.cells] at HS)
          | ((with_reducible (show wpList _ _ _ (Oper.mk (some 1) (Op.box _ _) _ _ _ _ :: _) _ _)); refine wpList_box_st (o := ⟨some 1, .box _ _, _, _, _, _⟩) rfl _ _ rfl (v := .agg _) rfl HS ?_; clear HS; intro w1 b1 hb1 HS; simp only [Value.cells] at HS)
          | ((with_reducible (show wpList _ _ _ (Oper.mk (some 6) (Op.load _ _) _ _ _ _ :: _) _ _)); refine wpList_loadS_st (o := ⟨some 6, .load _ _, _, _, _, _⟩) rfl _ _ rfl rfl HS (by first | ((repeat (first | (with_reducible exact Take.head) | apply Take.tail)); done) | ((repeat (first | exact Take.head | apply Take.tail)); done)) sc_SSint (by rfl) ?_)
          | ((with_reducible (show wpList _ _ _ (Oper.mk (some 11) (Op.load _ _) _ _ _ _ :: _) _ _)); refine wpList_loadS_st (o := ⟨some 11, .load _ _, _, _, _, _⟩) rfl _ _ rfl rfl HS (by first | ((repeat (first | (with_reducible exact Take.head) | apply Take.tail)); done) | ((repeat (first | exact Take.head | apply Take.tail)); done)) sc_Sint (by rfl) ?_))
        go_roundw
        case rel => exact ⟨k + 1, by go_num, by omega, HN.out, HS⟩
        case measure => simp [intOf]; omega
      case false =>
        have h1 := of_decide_eq_false h0
        rw [h0, Bool.false_and] at hn
        have HN := hid (HQ.out.trans hn)
        clear hn h0 hy
        go_wp2_with (first
          | ((with_reducible (show wpList _ _ _ (Oper.mk (some 1) (Op.box _ _) _ _ _ _ :: _) _ _)); refine wpList_box_st (o := ⟨some 1, .box _ _, _, _, _, _⟩) rfl _ _ rfl (v := .agg (List.toArray _)) rfl HS ?_; clear HS; intro w1 b1 hb1 HS; simp only [Value.cells] at HS)
          | ((with_reducible (show wpList _ _ _ (Oper.mk (some 1) (Op.box _ _) _ _ _ _ :: _) _ _)); refine wpList_box_st (o := ⟨some 1, .box _ _, _, _, _, _⟩) rfl _ _ rfl (v := .agg _) rfl HS ?_; clear HS; intro w1 b1 hb1 HS; simp only [Value.cells] at HS)
          | ((with_reducible (show wpList _ _ _ (Oper.mk (some 6) (Op.load _ _) _ _ _ _ :: _) _ _)); refine wpList_loadS_st (o := ⟨some 6, .load _ _, _, _, _, _⟩) rfl _ _ rfl rfl HS (by first | ((repeat (first | (with_reducible exact Take.head) | apply Take.tail)); done) | ((repeat (first | exact Take.head | apply Take.tail)); done)) sc_SSint (by rfl) ?_)
          | ((with_reducible (show wpList _ _ _ (Oper.mk (some 11) (Op.load _ _) _ _ _ _ :: _) _ _)); refine wpList_loadS_st (o := ⟨some 11, .load _ _, _, _, _, _⟩) rfl _ _ rfl rfl HS (by first | ((repeat (first | (with_reducible exact Take.head) | apply Take.tail)); done) | ((repeat (first | exact Take.head | apply Take.tail)); done)) sc_Sint (by rfl) ?_))
        go_ret
        exact ⟨by rw [HN.out]; rfl, HS.ex⟩
    case neg =>
      obtain rfl : k = qs.length := by omega
      have HN : Hid (q = true) := hid (by rw [HQ.out, hn]; unfold noneFrom noneLeft; simp)
      clear hn
      go_wp2_with (first
          | ((with_reducible (show wpList _ _ _ (Oper.mk (some 1) (Op.box _ _) _ _ _ _ :: _) _ _)); refine wpList_box_st (o := ⟨some 1, .box _ _, _, _, _, _⟩) rfl _ _ rfl (v := .agg (List.toArray _)) rfl HS ?_; clear HS; intro w1 b1 hb1 HS; simp only [Value.cells] at HS)
          | ((with_reducible (show wpList _ _ _ (Oper.mk (some 1) (Op.box _ _) _ _ _ _ :: _) _ _)); refine wpList_box_st (o := ⟨some 1, .box _ _, _, _, _, _⟩) rfl _ _ rfl (v := .agg _) rfl HS ?_; clear HS; intro w1 b1 hb1 HS; simp only [Value.cells] at HS)
          | ((with_reducible (show wpList _ _ _ (Oper.mk (some 6) (Op.load _ _) _ _ _ _ :: _) _ _)); refine wpList_loadS_st (o := ⟨some 6, .load _ _, _, _, _, _⟩) rfl _ _ rfl rfl HS (by first | ((repeat (first | (with_reducible exact Take.head) | apply Take.tail)); done) | ((repeat (first | exact Take.head | apply Take.tail)); done)) sc_SSint (by rfl) ?_)
          | ((with_reducible (show wpList _ _ _ (Oper.mk (some 11) (Op.load _ _) _ _ _ _ :: _) _ _)); refine wpList_loadS_st (o := ⟨some 11, .load _ _, _, _, _, _⟩) rfl _ _ rfl rfl HS (by first | ((repeat (first | (with_reducible exact Take.head) | apply Take.tail)); done) | ((repeat (first | exact Take.head | apply Take.tail)); done)) sc_Sint (by rfl) ?_))
      go_ret
      exact ⟨by rw [HN.out]; rfl, HS.ex⟩

set_option maxRecDepth 100000 in
set_option maxHeartbeats 4000000 in
theorem serveFrame_any (v1 v2 : Value) (qs : List (List Int)) (ds : List Int) (qu tu : Int) (fr : Bool) (w : World) (k1 : Holds w qs [v1]) (k2 : Holds w ds [v2]) (hl : qs.length ≤ 1048576) (hi : ∀ x ∈ qs, x.length ≤ 1048576) (hd : ds.length ≤ 1048576) {qs' : List (List Int)} {ds' : List Int} {tu' : Int} {fr' : Bool} {k x : Int} (hr : (qs', ds', tu', fr', k, x) = srvF qs ds qu tu fr) :
    Calls Try.prog 18 #[.agg #[v1, v2, .int .i64 qu, .int .i64 tu, .bool fr]] w (RetFair3 w qs' ds' qu tu' fr' k x) := by

  cases hf : fairOkB qs ds qu tu fr
  case false =>
    obtain ⟨rfl, rfl, rfl, rfl, rfl, rfl⟩ : qs = qs' ∧ ds = ds' ∧ tu = tu' ∧ fr = fr' ∧ -1 = k ∧ 0 = x := by
      rw [srvF_no (.inl hf)] at hr
      simp only [Prod.mk.injEq] at hr
      obtain ⟨h1, h2, h3, h4, h5, h6⟩ := hr
      exact ⟨h1.symm, h2.symm, h3.symm, h4.symm, h5.symm, h6.symm⟩
    have HF := hid hf.symm
    clear hr hf
    have HS := St.start w
    go_enter Try.func18, Try.ntmps18
    go_wp2_with (first
          | (go_at_call 16; (with_reducible refine (copyFair_any _ _ qs ds qu _ fr _ (k1.ex HS.ex) (k2.ex HS.ex) hl hi hd).mono ?_); rintro e w' ⟨a1, c1, a2, c2, rfl, ho, hx⟩; replace HS := (HS.own (vs := [_] ++ [_]) ho hx).split rfl; clear ho hx)
          | (go_at_call 9; (with_reducible refine (fairOk_q _ _ qs ds qu _ fr _ (k1.ex HS.ex) (k2.ex HS.ex) HF.out).mono ?_); rintro e w' ⟨rfl, hx⟩; replace HS := HS.grow hx; clear hx)
          | ((with_reducible (show wpList _ _ _ (Oper.mk (some 1) (Op.box _ _) _ _ _ _ :: _) _ _)); refine wpList_box_st (o := ⟨some 1, .box _ _, _, _, _, _⟩) rfl _ _ rfl (v := .agg (List.toArray _)) rfl HS ?_; clear HS; intro w1 b1 hb1 HS; simp only [Value.cells] at HS)
          | ((with_reducible (show wpList _ _ _ (Oper.mk (some 1) (Op.box _ _) _ _ _ _ :: _) _ _)); refine wpList_box_st (o := ⟨some 1, .box _ _, _, _, _, _⟩) rfl _ _ rfl (v := .agg _) rfl HS ?_; clear HS; intro w1 b1 hb1 HS; simp only [Value.cells] at HS)
          | ((with_reducible (show wpList _ _ _ (Oper.mk (some 2) (Op.alloc _) _ _ _ _ :: _) _ _)); refine wpList_alloc_st (o := ⟨some 2, .alloc _, _, _, _, _⟩) rfl _ rfl zc_impl_Fair HS ?_; clear HS; intro w2 b2 hb2 HS)
          | ((with_reducible (show wpList _ _ _ (Oper.mk (some 8) (Op.load _ _) _ _ _ _ :: _) _ _)); refine wpList_loadA_st (o := ⟨some 8, .load _ _, _, _, _, _⟩) rfl _ _ rfl rfl HS (by first | ((repeat (first | (with_reducible exact Take.head) | apply Take.tail)); done) | ((repeat (first | exact Take.head | apply Take.tail)); done)) ag_impl_Fair (by simp only [List.drop_succ_cons, List.drop_zero, List.take_succ_cons, List.take_zero, List.take_nil]; rfl) rfl ?_)
          | ((with_reducible (show wpList _ _ _ (Oper.mk (some 5) (Op.alloc _) _ _ _ _ :: _) _ _)); refine wpList_alloc_st (o := ⟨some 5, .alloc _, _, _, _, _⟩) rfl _ rfl zc_impl_Fair HS ?_; clear HS; intro w5 b5 hb5 HS)
          | ((with_reducible (show wpList _ _ _ (Oper.mk none (Op.store _ (.tmp 5) _) _ _ _ _ :: _) _ _)); refine wpList_store_st (o := ⟨none, .store _ (.tmp 5) _, _, _, _, _⟩) rfl _ _ _ rfl rfl (v := .agg (List.toArray _)) rfl HS (by first | ((repeat (first | (with_reducible exact Take.head) | apply Take.tail)); done) | ((repeat (first | exact Take.head | apply Take.tail)); done)) sz_impl_Fair (by simp only [Value.cells]; rfl) (by rfl) (by rfl) (by simp) ?_ rfl; clear HS; intro w1_3 hz1_3 HS; simp only [nicL, Value.cells, List.append_nil] at HS)
          | ((with_reducible (show wpList _ _ _ (Oper.mk none (Op.store _ (.tmp 5) _) _ _ _ _ :: _) _ _)); refine wpList_store_st (o := ⟨none, .store _ (.tmp 5) _, _, _, _, _⟩) rfl _ _ _ rfl rfl (v := .agg _) rfl HS (by first | ((repeat (first | (with_reducible exact Take.head) | apply Take.tail)); done) | ((repeat (first | exact Take.head | apply Take.tail)); done)) sz_impl_Fair (by simp only [Value.cells]; rfl) (by rfl) (by rfl) (by simp) ?_ rfl; clear HS; intro w1_3 hz1_3 HS; simp only [nicL, Value.cells, List.append_nil] at HS)
          | ((with_reducible (show wpList _ _ _ (Oper.mk (some 10) (Op.load _ _) _ _ _ _ :: _) _ _)); refine wpList_loadA_st (o := ⟨some 10, .load _ _, _, _, _, _⟩) rfl _ _ rfl rfl HS (by first | ((repeat (first | (with_reducible exact Take.head) | apply Take.tail)); done) | ((repeat (first | exact Take.head | apply Take.tail)); done)) ag_impl_Fair (by simp only [List.drop_succ_cons, List.drop_zero, List.take_succ_cons, List.take_zero, List.take_nil]; rfl) rfl ?_)
          | ((with_reducible (show wpList _ _ _ (Oper.mk (some 14) (Op.load _ _) _ _ _ _ :: _) _ _)); refine wpList_loadA_st (o := ⟨some 14, .load _ _, _, _, _, _⟩) rfl _ _ rfl rfl HS (by first | ((repeat (first | (with_reducible exact Take.head) | apply Take.tail)); done) | ((repeat (first | exact Take.head | apply Take.tail)); done)) ag_impl_Fair (by simp only [List.drop_succ_cons, List.drop_zero, List.take_succ_cons, List.take_zero, List.take_nil]; rfl) rfl ?_)
          | ((with_reducible (show wpList _ _ _ (Oper.mk (some 17) (Op.load _ _) _ _ _ _ :: _) _ _)); refine wpList_loadA_st (o := ⟨some 17, .load _ _, _, _, _, _⟩) rfl _ _ rfl rfl HS (by first | ((repeat (first | (with_reducible exact Take.head) | apply Take.tail)); done) | ((repeat (first | exact Take.head | apply Take.tail)); done)) ag_impl_Fair (by simp only [List.drop_succ_cons, List.drop_zero, List.take_succ_cons, List.take_zero, List.take_nil]; rfl) rfl ?_)
          | ((with_reducible (show wpList _ _ _ (Oper.mk none (Op.store _ (.tmp 2) _) _ _ _ _ :: _) _ _)); refine wpList_store_st (o := ⟨none, .store _ (.tmp 2) _, _, _, _, _⟩) rfl _ _ _ rfl rfl (v := .agg (List.toArray _)) rfl HS (by first | ((repeat (first | (with_reducible exact Take.head) | apply Take.tail)); done) | ((repeat (first | exact Take.head | apply Take.tail)); done)) sz_impl_Fair (by simp only [Value.cells]; rfl) (by rfl) (by rfl) (by simp) ?_ rfl; clear HS; intro w3_1 hz3_1 HS; simp only [nicL, Value.cells, List.append_nil] at HS)
          | ((with_reducible (show wpList _ _ _ (Oper.mk none (Op.store _ (.tmp 2) _) _ _ _ _ :: _) _ _)); refine wpList_store_st (o := ⟨none, .store _ (.tmp 2) _, _, _, _, _⟩) rfl _ _ _ rfl rfl (v := .agg _) rfl HS (by first | ((repeat (first | (with_reducible exact Take.head) | apply Take.tail)); done) | ((repeat (first | exact Take.head | apply Take.tail)); done)) sz_impl_Fair (by simp only [Value.cells]; rfl) (by rfl) (by rfl) (by simp) ?_ rfl; clear HS; intro w3_1 hz3_1 HS; simp only [nicL, Value.cells, List.append_nil] at HS)
          | ((with_reducible (show wpList _ _ _ (Oper.mk (some 22) (Op.load _ _) _ _ _ _ :: _) _ _)); refine wpList_loadA_st (o := ⟨some 22, .load _ _, _, _, _, _⟩) rfl _ _ rfl rfl HS (by first | ((repeat (first | (with_reducible exact Take.head) | apply Take.tail)); done) | ((repeat (first | exact Take.head | apply Take.tail)); done)) ag_impl_Fair (by simp only [List.drop_succ_cons, List.drop_zero, List.take_succ_cons, List.take_zero, List.take_nil]; rfl) rfl ?_)
          | ((with_reducible (show wpList _ _ _ (Oper.mk none (Op.store _ (.tmp 2) _) _ _ _ _ :: _) _ _)); refine wpList_store_st (o := ⟨none, .store _ (.tmp 2) _, _, _, _, _⟩) rfl _ _ _ rfl rfl (v := .agg (List.toArray _)) rfl HS (by first | ((repeat (first | (with_reducible exact Take.head) | apply Take.tail)); done) | ((repeat (first | exact Take.head | apply Take.tail)); done)) sz_impl_Fair (by simp only [Value.cells]; rfl) (by rfl) (by rfl) (by simp) ?_ rfl; clear HS; intro w5_4 hz5_4 HS; simp only [nicL, Value.cells, List.append_nil] at HS)
          | ((with_reducible (show wpList _ _ _ (Oper.mk none (Op.store _ (.tmp 2) _) _ _ _ _ :: _) _ _)); refine wpList_store_st (o := ⟨none, .store _ (.tmp 2) _, _, _, _, _⟩) rfl _ _ _ rfl rfl (v := .agg _) rfl HS (by first | ((repeat (first | (with_reducible exact Take.head) | apply Take.tail)); done) | ((repeat (first | exact Take.head | apply Take.tail)); done)) sz_impl_Fair (by simp only [Value.cells]; rfl) (by rfl) (by rfl) (by simp) ?_ rfl; clear HS; intro w5_4 hz5_4 HS; simp only [nicL, Value.cells, List.append_nil] at HS))
    refine bodyPost_rets (by rfl) (RVs.cell (by rfl) HS (by first | ((repeat (first | (with_reducible exact Take.head) | apply Take.tail)); done) | ((repeat (first | exact Take.head | apply Take.tail)); done)) ag_impl_Fair (by rfl) (RVs.tmp (by rfl) (RVs.tmp (by rfl) RVs.nil))) (by simp) (by rfl) ?_
    exact retFair3 HS (by first | ((repeat (first | (with_reducible exact Take.head) | apply Take.tail)); done) | ((repeat (first | exact Take.head | apply Take.tail)); done)) (by first | ((repeat (first | (with_reducible exact Take.head) | apply Take.tail)); done) | ((repeat (first | exact Take.head | apply Take.tail)); done))
  case true =>
  cases he : noneLeft qs
  case true =>
    obtain ⟨rfl, rfl, rfl, rfl, rfl, rfl⟩ : qs = qs' ∧ ds = ds' ∧ tu = tu' ∧ fr = fr' ∧ -1 = k ∧ 0 = x := by
      rw [srvF_no (.inr he)] at hr
      simp only [Prod.mk.injEq] at hr
      obtain ⟨h1, h2, h3, h4, h5, h6⟩ := hr
      exact ⟨h1.symm, h2.symm, h3.symm, h4.symm, h5.symm, h6.symm⟩
    have HF := hid hf.symm
    have HE := hid he.symm
    clear hr hf he
    have HS := St.start w
    go_enter Try.func18, Try.ntmps18
    go_wp2_with (first
          | (go_at_call 16; (with_reducible refine (copyFair_any _ _ qs ds qu _ fr _ (k1.ex HS.ex) (k2.ex HS.ex) hl hi hd).mono ?_); rintro e w' ⟨a1, c1, a2, c2, rfl, ho, hx⟩; replace HS := (HS.own (vs := [_] ++ [_]) ho hx).split rfl; clear ho hx)
          | (go_at_call 9; (with_reducible refine (fairOk_q _ _ qs ds qu _ fr _ (k1.ex HS.ex) (k2.ex HS.ex) HF.out).mono ?_); rintro e w' ⟨rfl, hx⟩; replace HS := HS.grow hx; clear hx)
          | (go_at_call 23; (with_reducible refine (allEmpty_any _ _ qs ds qu _ fr _ (k1.ex HS.ex) HE.out).mono ?_); rintro e w' ⟨rfl, hx⟩; replace HS := HS.grow hx; clear hx)
          | ((with_reducible (show wpList _ _ _ (Oper.mk (some 1) (Op.box _ _) _ _ _ _ :: _) _ _)); refine wpList_box_st (o := ⟨some 1, .box _ _, _, _, _, _⟩) rfl _ _ rfl (v := .agg (List.toArray _)) rfl HS ?_; clear HS; intro w1 b1 hb1 HS; simp only [Value.cells] at HS)
          | ((with_reducible (show wpList _ _ _ (Oper.mk (some 1) (Op.box _ _) _ _ _ _ :: _) _ _)); refine wpList_box_st (o := ⟨some 1, .box _ _, _, _, _, _⟩) rfl _ _ rfl (v := .agg _) rfl HS ?_; clear HS; intro w1 b1 hb1 HS; simp only [Value.cells] at HS)
          | ((with_reducible (show wpList _ _ _ (Oper.mk (some 2) (Op.alloc _) _ _ _ _ :: _) _ _)); refine wpList_alloc_st (o := ⟨some 2, .alloc _, _, _, _, _⟩) rfl _ rfl zc_impl_Fair HS ?_; clear HS; intro w2 b2 hb2 HS)
          | ((with_reducible (show wpList _ _ _ (Oper.mk (some 8) (Op.load _ _) _ _ _ _ :: _) _ _)); refine wpList_loadA_st (o := ⟨some 8, .load _ _, _, _, _, _⟩) rfl _ _ rfl rfl HS (by first | ((repeat (first | (with_reducible exact Take.head) | apply Take.tail)); done) | ((repeat (first | exact Take.head | apply Take.tail)); done)) ag_impl_Fair (by simp only [List.drop_succ_cons, List.drop_zero, List.take_succ_cons, List.take_zero, List.take_nil]; rfl) rfl ?_)
          | ((with_reducible (show wpList _ _ _ (Oper.mk (some 5) (Op.alloc _) _ _ _ _ :: _) _ _)); refine wpList_alloc_st (o := ⟨some 5, .alloc _, _, _, _, _⟩) rfl _ rfl zc_impl_Fair HS ?_; clear HS; intro w5 b5 hb5 HS)
          | ((with_reducible (show wpList _ _ _ (Oper.mk none (Op.store _ (.tmp 5) _) _ _ _ _ :: _) _ _)); refine wpList_store_st (o := ⟨none, .store _ (.tmp 5) _, _, _, _, _⟩) rfl _ _ _ rfl rfl (v := .agg (List.toArray _)) rfl HS (by first | ((repeat (first | (with_reducible exact Take.head) | apply Take.tail)); done) | ((repeat (first | exact Take.head | apply Take.tail)); done)) sz_impl_Fair (by simp only [Value.cells]; rfl) (by rfl) (by rfl) (by simp) ?_ rfl; clear HS; intro w1_3 hz1_3 HS; simp only [nicL, Value.cells, List.append_nil] at HS)
          | ((with_reducible (show wpList _ _ _ (Oper.mk none (Op.store _ (.tmp 5) _) _ _ _ _ :: _) _ _)); refine wpList_store_st (o := ⟨none, .store _ (.tmp 5) _, _, _, _, _⟩) rfl _ _ _ rfl rfl (v := .agg _) rfl HS (by first | ((repeat (first | (with_reducible exact Take.head) | apply Take.tail)); done) | ((repeat (first | exact Take.head | apply Take.tail)); done)) sz_impl_Fair (by simp only [Value.cells]; rfl) (by rfl) (by rfl) (by simp) ?_ rfl; clear HS; intro w1_3 hz1_3 HS; simp only [nicL, Value.cells, List.append_nil] at HS)
          | ((with_reducible (show wpList _ _ _ (Oper.mk (some 10) (Op.load _ _) _ _ _ _ :: _) _ _)); refine wpList_loadA_st (o := ⟨some 10, .load _ _, _, _, _, _⟩) rfl _ _ rfl rfl HS (by first | ((repeat (first | (with_reducible exact Take.head) | apply Take.tail)); done) | ((repeat (first | exact Take.head | apply Take.tail)); done)) ag_impl_Fair (by simp only [List.drop_succ_cons, List.drop_zero, List.take_succ_cons, List.take_zero, List.take_nil]; rfl) rfl ?_)
          | ((with_reducible (show wpList _ _ _ (Oper.mk (some 14) (Op.load _ _) _ _ _ _ :: _) _ _)); refine wpList_loadA_st (o := ⟨some 14, .load _ _, _, _, _, _⟩) rfl _ _ rfl rfl HS (by first | ((repeat (first | (with_reducible exact Take.head) | apply Take.tail)); done) | ((repeat (first | exact Take.head | apply Take.tail)); done)) ag_impl_Fair (by simp only [List.drop_succ_cons, List.drop_zero, List.take_succ_cons, List.take_zero, List.take_nil]; rfl) rfl ?_)
          | ((with_reducible (show wpList _ _ _ (Oper.mk (some 17) (Op.load _ _) _ _ _ _ :: _) _ _)); refine wpList_loadA_st (o := ⟨some 17, .load _ _, _, _, _, _⟩) rfl _ _ rfl rfl HS (by first | ((repeat (first | (with_reducible exact Take.head) | apply Take.tail)); done) | ((repeat (first | exact Take.head | apply Take.tail)); done)) ag_impl_Fair (by simp only [List.drop_succ_cons, List.drop_zero, List.take_succ_cons, List.take_zero, List.take_nil]; rfl) rfl ?_)
          | ((with_reducible (show wpList _ _ _ (Oper.mk none (Op.store _ (.tmp 2) _) _ _ _ _ :: _) _ _)); refine wpList_store_st (o := ⟨none, .store _ (.tmp 2) _, _, _, _, _⟩) rfl _ _ _ rfl rfl (v := .agg (List.toArray _)) rfl HS (by first | ((repeat (first | (with_reducible exact Take.head) | apply Take.tail)); done) | ((repeat (first | exact Take.head | apply Take.tail)); done)) sz_impl_Fair (by simp only [Value.cells]; rfl) (by rfl) (by rfl) (by simp) ?_ rfl; clear HS; intro w3_1 hz3_1 HS; simp only [nicL, Value.cells, List.append_nil] at HS)
          | ((with_reducible (show wpList _ _ _ (Oper.mk none (Op.store _ (.tmp 2) _) _ _ _ _ :: _) _ _)); refine wpList_store_st (o := ⟨none, .store _ (.tmp 2) _, _, _, _, _⟩) rfl _ _ _ rfl rfl (v := .agg _) rfl HS (by first | ((repeat (first | (with_reducible exact Take.head) | apply Take.tail)); done) | ((repeat (first | exact Take.head | apply Take.tail)); done)) sz_impl_Fair (by simp only [Value.cells]; rfl) (by rfl) (by rfl) (by simp) ?_ rfl; clear HS; intro w3_1 hz3_1 HS; simp only [nicL, Value.cells, List.append_nil] at HS)
          | ((with_reducible (show wpList _ _ _ (Oper.mk (some 22) (Op.load _ _) _ _ _ _ :: _) _ _)); refine wpList_loadA_st (o := ⟨some 22, .load _ _, _, _, _, _⟩) rfl _ _ rfl rfl HS (by first | ((repeat (first | (with_reducible exact Take.head) | apply Take.tail)); done) | ((repeat (first | exact Take.head | apply Take.tail)); done)) ag_impl_Fair (by simp only [List.drop_succ_cons, List.drop_zero, List.take_succ_cons, List.take_zero, List.take_nil]; rfl) rfl ?_)
          | ((with_reducible (show wpList _ _ _ (Oper.mk none (Op.store _ (.tmp 2) _) _ _ _ _ :: _) _ _)); refine wpList_store_st (o := ⟨none, .store _ (.tmp 2) _, _, _, _, _⟩) rfl _ _ _ rfl rfl (v := .agg (List.toArray _)) rfl HS (by first | ((repeat (first | (with_reducible exact Take.head) | apply Take.tail)); done) | ((repeat (first | exact Take.head | apply Take.tail)); done)) sz_impl_Fair (by simp only [Value.cells]; rfl) (by rfl) (by rfl) (by simp) ?_ rfl; clear HS; intro w5_4 hz5_4 HS; simp only [nicL, Value.cells, List.append_nil] at HS)
          | ((with_reducible (show wpList _ _ _ (Oper.mk none (Op.store _ (.tmp 2) _) _ _ _ _ :: _) _ _)); refine wpList_store_st (o := ⟨none, .store _ (.tmp 2) _, _, _, _, _⟩) rfl _ _ _ rfl rfl (v := .agg _) rfl HS (by first | ((repeat (first | (with_reducible exact Take.head) | apply Take.tail)); done) | ((repeat (first | exact Take.head | apply Take.tail)); done)) sz_impl_Fair (by simp only [Value.cells]; rfl) (by rfl) (by rfl) (by simp) ?_ rfl; clear HS; intro w5_4 hz5_4 HS; simp only [nicL, Value.cells, List.append_nil] at HS))
    refine bodyPost_rets (by rfl) (RVs.cell (by rfl) HS (by first | ((repeat (first | (with_reducible exact Take.head) | apply Take.tail)); done) | ((repeat (first | exact Take.head | apply Take.tail)); done)) ag_impl_Fair (by rfl) (RVs.tmp (by rfl) (RVs.tmp (by rfl) RVs.nil))) (by simp) (by rfl) ?_
    exact retFair3 HS (by first | ((repeat (first | (with_reducible exact Take.head) | apply Take.tail)); done) | ((repeat (first | exact Take.head | apply Take.tail)); done)) (by first | ((repeat (first | (with_reducible exact Take.head) | apply Take.tail)); done) | ((repeat (first | exact Take.head | apply Take.tail)); done))
  case false =>
    obtain ⟨⟨qs1, ds1, tk, x1⟩, hs⟩ := srv_ok hf he
    rw [srvF_yes hf he hs] at hr
    obtain ⟨ht1, ht2⟩ := fair_tu hf
    have hso := SOk.of hf
    obtain ⟨t, ht⟩ : ∃ t, t = tu.toNat := ⟨_, rfl⟩
    rw [← ht] at hs ht2 hso
    rw [← ht] at ht1
    clear ht
    subst ht1
    simp only [Prod.mk.injEq] at hr
    obtain ⟨g1, g2, g3, g4, g5, g6⟩ := hr
    subst g1 g2 g3 g4 g5 g6
    obtain ⟨e1, e2, e3, e4, e5⟩ := srv_fine _ hso hs
    have hn8 := hso.n8
    have HZ1 : Hid (qs'.length ≤ 1048576) := hid (by omega)
    have HZ2 : Hid (∀ x ∈ qs', x.length ≤ 1048576) := hid fun y hy => by have := e5 y hy; omega
    have HZ3 : Hid (ds'.length ≤ 1048576) := hid (by omega)
    have HSO := hid hso
    have HSR := hid hs
    have HF := hid hf.symm
    have HE := hid he.symm
    clear hf he hs hso e1 e2 e5
    have HS := St.start w
    go_enter Try.func18, Try.ntmps18
    go_wp2_with (first
          | (go_at_call 16; (with_reducible refine (copyFair_any _ _ qs ds qu _ fr _ (k1.ex HS.ex) (k2.ex HS.ex) hl hi hd).mono ?_); rintro e w' ⟨a1, c1, a2, c2, rfl, ho, hx⟩; replace HS := (HS.own (vs := [_] ++ [_]) ho hx).split rfl; clear ho hx)
          | (go_at_call 9; (with_reducible refine (fairOk_q _ _ qs ds qu _ fr _ (k1.ex HS.ex) (k2.ex HS.ex) HF.out).mono ?_); rintro e w' ⟨rfl, hx⟩; replace HS := HS.grow hx; clear hx)
          | (go_at_call 23; (with_reducible refine (allEmpty_any _ _ qs ds qu _ fr _ (k1.ex HS.ex) HE.out).mono ?_); rintro e w' ⟨rfl, hx⟩; replace HS := HS.grow hx; clear hx)
          | (go_at_call 24; (with_reducible refine (serve_any HS (by first | ((repeat (first | (with_reducible exact Take.head) | apply Take.tail)); done) | ((repeat (first | exact Take.head | apply Take.tail)); done)) (by first | ((repeat (first | (with_reducible exact Take.head) | apply Take.tail)); done) | ((repeat (first | exact Take.head | apply Take.tail)); done)) (by first | ((repeat (first | (with_reducible exact Take.head) | apply Take.tail)); done) | ((repeat (first | exact Take.head | apply Take.tail)); done)) HSO.out HSR.out).mono ?_); rintro e w9 ⟨rfl, HS9⟩; clear HS; have HS := HS9; clear HS9)
          | (go_at_call 16; (with_reducible refine (copyFair_any _ _ qs' ds' qu (tk : Int) false _ (HS.holds (by first | ((repeat (first | (with_reducible exact Take.head) | apply Take.tail)); done) | ((repeat (first | exact Take.head | apply Take.tail)); done))) (HS.holds (by first | ((repeat (first | (with_reducible exact Take.head) | apply Take.tail)); done) | ((repeat (first | exact Take.head | apply Take.tail)); done))) HZ1.out HZ2.out HZ3.out).mono ?_); rintro e w' ⟨a1, c1, a2, c2, rfl, ho, hx⟩; replace HS := (HS.own (vs := [_] ++ [_]) ho hx).split rfl; clear ho hx)
          | ((with_reducible (show wpList _ _ _ (Oper.mk (some 1) (Op.box _ _) _ _ _ _ :: _) _ _)); refine wpList_box_st (o := ⟨some 1, .box _ _, _, _, _, _⟩) rfl _ _ rfl (v := .agg (List.toArray _)) rfl HS ?_; clear HS; intro w1 b1 hb1 HS; simp only [Value.cells] at HS)
          | ((with_reducible (show wpList _ _ _ (Oper.mk (some 1) (Op.box _ _) _ _ _ _ :: _) _ _)); refine wpList_box_st (o := ⟨some 1, .box _ _, _, _, _, _⟩) rfl _ _ rfl (v := .agg _) rfl HS ?_; clear HS; intro w1 b1 hb1 HS; simp only [Value.cells] at HS)
          | ((with_reducible (show wpList _ _ _ (Oper.mk (some 2) (Op.alloc _) _ _ _ _ :: _) _ _)); refine wpList_alloc_st (o := ⟨some 2, .alloc _, _, _, _, _⟩) rfl _ rfl zc_impl_Fair HS ?_; clear HS; intro w2 b2 hb2 HS)
          | ((with_reducible (show wpList _ _ _ (Oper.mk (some 8) (Op.load _ _) _ _ _ _ :: _) _ _)); refine wpList_loadA_st (o := ⟨some 8, .load _ _, _, _, _, _⟩) rfl _ _ rfl rfl HS (by first | ((repeat (first | (with_reducible exact Take.head) | apply Take.tail)); done) | ((repeat (first | exact Take.head | apply Take.tail)); done)) ag_impl_Fair (by simp only [List.drop_succ_cons, List.drop_zero, List.take_succ_cons, List.take_zero, List.take_nil]; rfl) rfl ?_)
          | ((with_reducible (show wpList _ _ _ (Oper.mk (some 5) (Op.alloc _) _ _ _ _ :: _) _ _)); refine wpList_alloc_st (o := ⟨some 5, .alloc _, _, _, _, _⟩) rfl _ rfl zc_impl_Fair HS ?_; clear HS; intro w5 b5 hb5 HS)
          | ((with_reducible (show wpList _ _ _ (Oper.mk none (Op.store _ (.tmp 5) _) _ _ _ _ :: _) _ _)); refine wpList_store_st (o := ⟨none, .store _ (.tmp 5) _, _, _, _, _⟩) rfl _ _ _ rfl rfl (v := .agg (List.toArray _)) rfl HS (by first | ((repeat (first | (with_reducible exact Take.head) | apply Take.tail)); done) | ((repeat (first | exact Take.head | apply Take.tail)); done)) sz_impl_Fair (by simp only [Value.cells]; rfl) (by rfl) (by rfl) (by simp) ?_ rfl; clear HS; intro w1_3 hz1_3 HS; simp only [nicL, Value.cells, List.append_nil] at HS)
          | ((with_reducible (show wpList _ _ _ (Oper.mk none (Op.store _ (.tmp 5) _) _ _ _ _ :: _) _ _)); refine wpList_store_st (o := ⟨none, .store _ (.tmp 5) _, _, _, _, _⟩) rfl _ _ _ rfl rfl (v := .agg _) rfl HS (by first | ((repeat (first | (with_reducible exact Take.head) | apply Take.tail)); done) | ((repeat (first | exact Take.head | apply Take.tail)); done)) sz_impl_Fair (by simp only [Value.cells]; rfl) (by rfl) (by rfl) (by simp) ?_ rfl; clear HS; intro w1_3 hz1_3 HS; simp only [nicL, Value.cells, List.append_nil] at HS)
          | ((with_reducible (show wpList _ _ _ (Oper.mk (some 10) (Op.load _ _) _ _ _ _ :: _) _ _)); refine wpList_loadA_st (o := ⟨some 10, .load _ _, _, _, _, _⟩) rfl _ _ rfl rfl HS (by first | ((repeat (first | (with_reducible exact Take.head) | apply Take.tail)); done) | ((repeat (first | exact Take.head | apply Take.tail)); done)) ag_impl_Fair (by simp only [List.drop_succ_cons, List.drop_zero, List.take_succ_cons, List.take_zero, List.take_nil]; rfl) rfl ?_)
          | ((with_reducible (show wpList _ _ _ (Oper.mk (some 14) (Op.load _ _) _ _ _ _ :: _) _ _)); refine wpList_loadA_st (o := ⟨some 14, .load _ _, _, _, _, _⟩) rfl _ _ rfl rfl HS (by first | ((repeat (first | (with_reducible exact Take.head) | apply Take.tail)); done) | ((repeat (first | exact Take.head | apply Take.tail)); done)) ag_impl_Fair (by simp only [List.drop_succ_cons, List.drop_zero, List.take_succ_cons, List.take_zero, List.take_nil]; rfl) rfl ?_)
          | ((with_reducible (show wpList _ _ _ (Oper.mk (some 17) (Op.load _ _) _ _ _ _ :: _) _ _)); refine wpList_loadA_st (o := ⟨some 17, .load _ _, _, _, _, _⟩) rfl _ _ rfl rfl HS (by first | ((repeat (first | (with_reducible exact Take.head) | apply Take.tail)); done) | ((repeat (first | exact Take.head | apply Take.tail)); done)) ag_impl_Fair (by simp only [List.drop_succ_cons, List.drop_zero, List.take_succ_cons, List.take_zero, List.take_nil]; rfl) rfl ?_)
          | ((with_reducible (show wpList _ _ _ (Oper.mk none (Op.store _ (.tmp 2) _) _ _ _ _ :: _) _ _)); refine wpList_store_st (o := ⟨none, .store _ (.tmp 2) _, _, _, _, _⟩) rfl _ _ _ rfl rfl (v := .agg (List.toArray _)) rfl HS (by first | ((repeat (first | (with_reducible exact Take.head) | apply Take.tail)); done) | ((repeat (first | exact Take.head | apply Take.tail)); done)) sz_impl_Fair (by simp only [Value.cells]; rfl) (by rfl) (by rfl) (by simp) ?_ rfl; clear HS; intro w3_1 hz3_1 HS; simp only [nicL, Value.cells, List.append_nil] at HS)
          | ((with_reducible (show wpList _ _ _ (Oper.mk none (Op.store _ (.tmp 2) _) _ _ _ _ :: _) _ _)); refine wpList_store_st (o := ⟨none, .store _ (.tmp 2) _, _, _, _, _⟩) rfl _ _ _ rfl rfl (v := .agg _) rfl HS (by first | ((repeat (first | (with_reducible exact Take.head) | apply Take.tail)); done) | ((repeat (first | exact Take.head | apply Take.tail)); done)) sz_impl_Fair (by simp only [Value.cells]; rfl) (by rfl) (by rfl) (by simp) ?_ rfl; clear HS; intro w3_1 hz3_1 HS; simp only [nicL, Value.cells, List.append_nil] at HS)
          | ((with_reducible (show wpList _ _ _ (Oper.mk (some 22) (Op.load _ _) _ _ _ _ :: _) _ _)); refine wpList_loadA_st (o := ⟨some 22, .load _ _, _, _, _, _⟩) rfl _ _ rfl rfl HS (by first | ((repeat (first | (with_reducible exact Take.head) | apply Take.tail)); done) | ((repeat (first | exact Take.head | apply Take.tail)); done)) ag_impl_Fair (by simp only [List.drop_succ_cons, List.drop_zero, List.take_succ_cons, List.take_zero, List.take_nil]; rfl) rfl ?_)
          | ((with_reducible (show wpList _ _ _ (Oper.mk none (Op.store _ (.tmp 2) _) _ _ _ _ :: _) _ _)); refine wpList_store_st (o := ⟨none, .store _ (.tmp 2) _, _, _, _, _⟩) rfl _ _ _ rfl rfl (v := .agg (List.toArray _)) rfl HS (by first | ((repeat (first | (with_reducible exact Take.head) | apply Take.tail)); done) | ((repeat (first | exact Take.head | apply Take.tail)); done)) sz_impl_Fair (by simp only [Value.cells]; rfl) (by rfl) (by rfl) (by simp) ?_ rfl; clear HS; intro w5_4 hz5_4 HS; simp only [nicL, Value.cells, List.append_nil] at HS)
          | ((with_reducible (show wpList _ _ _ (Oper.mk none (Op.store _ (.tmp 2) _) _ _ _ _ :: _) _ _)); refine wpList_store_st (o := ⟨none, .store _ (.tmp 2) _, _, _, _, _⟩) rfl _ _ _ rfl rfl (v := .agg _) rfl HS (by first | ((repeat (first | (with_reducible exact Take.head) | apply Take.tail)); done) | ((repeat (first | exact Take.head | apply Take.tail)); done)) sz_impl_Fair (by simp only [Value.cells]; rfl) (by rfl) (by rfl) (by simp) ?_ rfl; clear HS; intro w5_4 hz5_4 HS; simp only [nicL, Value.cells, List.append_nil] at HS))
    refine bodyPost_rets (by rfl) (RVs.cell (by rfl) HS (by first | ((repeat (first | (with_reducible exact Take.head) | apply Take.tail)); done) | ((repeat (first | exact Take.head | apply Take.tail)); done)) ag_impl_Fair (by rfl) (RVs.tmp (by rfl) (RVs.tmp (by rfl) RVs.nil))) (by simp) (by rfl) ?_
    exact retFair3 HS (by first | ((repeat (first | (with_reducible exact Take.head) | apply Take.tail)); done) | ((repeat (first | exact Take.head | apply Take.tail)); done)) (by first | ((repeat (first | (with_reducible exact Take.head) | apply Take.tail)); done) | ((repeat (first | exact Take.head | apply Take.tail)); done))

end Go.Proofs.Ytigepcpmdhcenaa
