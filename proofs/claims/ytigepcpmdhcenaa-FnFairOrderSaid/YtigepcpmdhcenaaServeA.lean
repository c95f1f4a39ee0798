/- The next frame of a Fair: serve. -/
import Derived.Test.YtigepcpmdhcenaaRows
import Derived.Test.YtigepcpmdhcenaaTy
import Derived.Test.YtigepcpmdhcenaaTi
import Derived.Test.YtigepcpmdhcenaaGap
import Derived.Test.YtigepcpmdhcenaaNewF
import Derived.Test.YtigepcpmdhcenaaSrv
import Derived.Deep.LoopGhost
namespace Go.Proofs.Ytigepcpmdhcenaa
open Go.RowKit
set_option linter.unusedVariables false
set_option linter.unusedSimpArgs false

def RetFair3 (w : World) (qs : List (List Int)) (ds : List Int) (q t : Int) (fr : Bool) (k x : Int) (e : Ending) (w' : World) : Prop :=
  ∃ a1 c1 a2 c2, e = .returned (.tuple #[.agg #[.slice a1 qs.length c1, .slice a2 ds.length c2, .int .i64 q, .int .i64 t, .bool fr], .int .i64 k, .int .i64 x]) ∧ Owns w.heap.size w' (qs, ds) [.slice a1 qs.length c1, .slice a2 ds.length c2] ∧ Ex w w'
theorem retFair3 {w0 w : World} {Is Js Ks : List Asn} {qs : List (List Int)} {ds : List Int} {v1 v2 : Value} {q t : Int} {fr : Bool} {k x : Int} (h : St w0 w Is) (t1 : Take Is (ownA qs [v1]) Js) (t2 : Take Js (ownA ds [v2]) Ks) :
    RetFair3 w0 qs ds q t fr k x (.returned (.tuple #[.agg #[v1, v2, .int .i64 q, .int .i64 t, .bool fr], .int .i64 k, .int .i64 x])) w := by
  have h2 := h.take2 t1 t2
  obtain ⟨a1, c1, rfl⟩ := ownA.form h2 .head
  obtain ⟨a2, c2, rfl⟩ := ownA.form h2 (.tail .head)
  exact ⟨a1, c1, a2, c2, rfl, (h2.join).owns .head, h.ex⟩
theorem set_same {α : Type} {l : List α} {k : Nat} {y : α} (h : k < l.length) (e : l[k] = y) : l.set k y = l := by subst e; exact List.set_getElem_self h
theorem tot_zero : ∀ {qs : List (List Int)}, noneLeft qs = decide (tot qs = 0)
  | [] => rfl
  | q :: l => by
    have ih := tot_zero (qs := l)
    unfold noneLeft at ih ⊢
    rw [List.all_cons, ih]
    simp only [tot]
    by_cases h : q.length = 0 <;> simp [h]

theorem arr_drop2 (B C : Asn) : ∀ (l : List Asn), Arr (B :: C :: l) l
  | [] => .nil
  | A :: l => .cons (.tail (.tail .head)) (arr_drop2 B C l)
set_option maxRecDepth 100000 in
set_option maxHeartbeats 8000000 in
theorem serve_any {w0 w : World} {Is J1 J2 Ks : List Asn} {b : Nat} {v1 v2 : Value} {qs : List (List Int)} {ds : List Int} {qu : Int} {tu : Nat} {fr : Bool} (HS0 : St w0 w Is) (t1 : Take Is (rowA b [v1, v2, .int .i64 qu, .int .i64 tu, .bool fr] 27) J1) (t2 : Take J1 (ownA qs [v1]) J2) (t3 : Take J2 (ownA ds [v2]) Ks)
    (ok : SOk qu qs ds tu) {F : Nat} {qs' : List (List Int)} {ds' : List Int} {k : Nat} {x : Int} (hr : srv qu F qs ds tu fr = some (qs', ds', k, x)) :
    Calls Try.prog 24 #[.pointer (some ⟨b, 0, none⟩)] w fun e w' => e = .returned (.tuple #[.int .i64 k, .int .i64 x]) ∧ St w0 w' (rowA b [v1, v2, .int .i64 qu, .int .i64 k, .bool false] 27 :: ownA qs' [v1] :: ownA ds' [v2] :: Ks) := by
  have HS := HS0.arr (.cons t1 (.cons t2 (.cons t3 (take_all Ks))))
  clear HS0 t1 t2 t3
  obtain ⟨b1, o1, c1, rfl, z1, z2⟩ := ownA.addr HS (.tail .head) ok.n0
  obtain ⟨b2, o2, c2, rfl, z3, z4⟩ := ownA.addr HS (.tail (.tail .head)) (by rw [ok.dl]; exact ok.n0)
  rw [ok.dl] at HS ⊢
  rw [ok.dl] at z3
  unfold maxLen at z2 z4
  go_enter Try.func24, Try.ntmps24
  go_wp2
  go_loopg [4] F (fun f s wr => ∃ (ds : List Int) (tu : Nat) (fr : Bool), SOk qu qs ds tu ∧ srv qu f qs ds tu fr = some (qs', ds', k, x) ∧ St w0 wr (rowA b [.slice (some ⟨b1, o1, none⟩) qs.length c1, .slice (some ⟨b2, o2, none⟩) qs.length c2, .int .i64 qu, .int .i64 tu, .bool fr] 27 :: ownA qs [.slice (some ⟨b1, o1, none⟩) qs.length c1] :: ownA ds [.slice (some ⟨b2, o2, none⟩) qs.length c2] :: Ks))
  case atStart => exact ⟨ds, tu, fr, ok, hr, HS⟩
  case round =>
    clear HS
    obtain ⟨ds, tu, fr, ok, hr, HS⟩ := hrel
    obtain ⟨f, rfl⟩ : ∃ f, gk = f + 1 := by
      cases gk with
      | zero => simp [srv] at hr
      | succ f => exact ⟨f, rfl⟩
    have htd : tu < ds.length := by rw [ok.dl]; exact ok.tl
    have htl := ok.tl
    have htl2 : (tu : Int) < qs.length := by omega
    have hn0 := ok.n0
    have hn8 := ok.n8
    have hd0 := ok.d tu htd
    have hq1 := ok.q1
    have hq2 := ok.q2
    have HD := hid (show ds[tu]? = some ds[tu] from List.getElem?_eq_getElem htd)
    generalize hdd : ds[tu] = d at *
    have HDD := hid hdd
    clear hdd
    obtain ⟨hd00, hd01⟩ := hd0
    have HS2 := HS.gap (xs := qs) (k := tu) (by first | ((repeat (first | (with_reducible exact Take.head) | apply Take.tail)); done) | ((repeat (first | exact Take.head | apply Take.tail)); done)) htl rfl
    clear HS
    obtain ⟨u, HS⟩ := HS2
    cases hq : qs[tu] with
    | nil =>
      have hq' := hq
      have hr' := hr
      rw [srv_nil htl hq] at hr'
      rw [hq] at HS
      obtain ⟨A, c, rfl, z1, z2⟩ : ∃ A c, u = .slice A 0 c ∧ 0 ≤ c ∧ c ≤ maxLen := ownA.form2 HS (show Take _ (ownA ([] : List Int) [u]) _ from (by first | ((repeat (first | (with_reducible exact Take.head) | apply Take.tail)); done) | ((repeat (first | exact Take.head | apply Take.tail)); done)))
      unfold maxLen at z2
      have HR := hid hr'
      have HQ := hid hq
      have HO := hid ok
      clear hr hr' hq hq' ok
      cases fr
      all_goals
        go_wp2_with (first
              | ((with_reducible (show wpList _ _ _ (Oper.mk (some 9) (Op.load _ _) _ _ _ _ :: _) _ _)); refine wpList_loadS_st (o := ⟨some 9, .load _ _, _, _, _, _⟩) rfl _ _ rfl rfl HS (by first | ((repeat (first | (with_reducible exact Take.head) | apply Take.tail)); done) | ((repeat (first | exact Take.head | apply Take.tail)); done)) sc_int (by rfl) ?_)
              | ((with_reducible (show wpList _ _ _ (Oper.mk (some 13) (Op.load _ _) _ _ _ _ :: _) _ _)); refine wpList_loadS_st (o := ⟨some 13, .load _ _, _, _, _, _⟩) rfl _ _ rfl rfl HS (by first | ((repeat (first | (with_reducible exact Take.head) | apply Take.tail)); done) | ((repeat (first | exact Take.head | apply Take.tail)); done)) sc_SSint (by rfl) ?_)
              | ((with_reducible (show wpList _ _ _ (Oper.mk (some 16) (Op.load _ _) _ _ _ _ :: _) _ _)); refine wpList_loadC_st (o := ⟨some 16, .load _ _, _, _, _, _⟩) rfl _ _ rfl rfl HS sc_Sint (by first | exact St.cellG (by first | ((repeat (first | (with_reducible exact Take.head) | apply Take.tail)); done) | ((repeat (first | exact Take.head | apply Take.tail)); done))) ?_)
              | ((with_reducible (show wpList _ _ _ (Oper.mk (some 20) (Op.load _ _) _ _ _ _ :: _) _ _)); refine wpList_loadS_st (o := ⟨some 20, .load _ _, _, _, _, _⟩) rfl _ _ rfl rfl HS (by first | ((repeat (first | (with_reducible exact Take.head) | apply Take.tail)); done) | ((repeat (first | exact Take.head | apply Take.tail)); done)) sc_bool (by rfl) ?_)
              | ((with_reducible (show wpList _ _ _ (Oper.mk none (Op.store _ (.tmp 41) _) _ _ _ _ :: _) _ _)); refine wpList_store_st (o := ⟨none, .store _ (.tmp 41) _, _, _, _, _⟩) rfl _ _ _ rfl rfl (v := .bool _) rfl HS (by first | ((repeat (first | (with_reducible exact Take.head) | apply Take.tail)); done) | ((repeat (first | exact Take.head | apply Take.tail)); done)) sz_bool (by simp only [Value.cells]; rfl) (by rfl) (by rfl) (by simp) ?_ rfl; clear HS; intro w5_3 hz5_3 HS; simp only [nicL, Value.cells, List.append_nil] at HS)
              | ((with_reducible (show wpList _ _ _ (Oper.mk none (Op.store _ (.tmp 41) _) _ _ _ _ :: _) _ _)); refine wpList_store_st (o := ⟨none, .store _ (.tmp 41) _, _, _, _, _⟩) rfl _ _ _ rfl rfl (v := _) rfl HS (by first | ((repeat (first | (with_reducible exact Take.head) | apply Take.tail)); done) | ((repeat (first | exact Take.head | apply Take.tail)); done)) sz_bool (by simp only [Value.cells]; rfl) (by rfl) (by rfl) (by simp) ?_ rfl; clear HS; intro w5_3 hz5_3 HS; simp only [nicL, Value.cells, List.append_nil] at HS))
        refine wp_region_plan_st HS (.forced 0 1 (.forced 1 1 (.forced 2 1 (.forced 3 1 (.early 4 (.early 5 (.early 6 (.early 7 (.early 11 (.forced 8 1 (.forced 9 1 (.forced 10 1 (.forced 12 1 (.forced 13 1 (.forced 14 2 (.forced 15 2 .done)))))))))))))))) (by kernel_rfl) (by as_aux_lemma => kernel_rfl) ?_
        intro hne
        replace HS := HS.drew
        try go_simp
        refine wpPlan_forced ?_
        first | (refine wpOne_skip rfl rfl ?_; (try go_simp)) | (refine wpOne_1 rfl rfl ?_; intro K hK; go_simp; refine hK _ _ ?_ ?_; (focus (first | (with_reducible exact StW.mk' HS) | exact StW.mk' (HS.arr (by repeat (first | exact Arr.nil | (with_reducible exact take_all _) | (refine Arr.cons (by first | ((repeat (first | (with_reducible exact Take.head) | apply Take.tail)); done) | ((repeat (first | exact Take.head | apply Take.tail)); done)) ?_)))))); clear hK K)
        refine wpPlan_forced ?_
        first | (refine wpOne_skip rfl rfl ?_; (try go_simp)) | (refine wpOne_1 rfl rfl ?_; intro K hK; go_simp; refine hK _ _ ?_ ?_; (focus (first | (with_reducible exact StW.mk' HS) | exact StW.mk' (HS.arr (by repeat (first | exact Arr.nil | (with_reducible exact take_all _) | (refine Arr.cons (by first | ((repeat (first | (with_reducible exact Take.head) | apply Take.tail)); done) | ((repeat (first | exact Take.head | apply Take.tail)); done)) ?_)))))); clear hK K)
        refine wpPlan_forced ?_
        first | (refine wpOne_skip rfl rfl ?_; (try go_simp)) | (refine wpOne_1 rfl rfl ?_; intro K hK; go_simp; refine hK _ _ ?_ ?_; (focus (first | (with_reducible exact StW.mk' HS) | exact StW.mk' (HS.arr (by repeat (first | exact Arr.nil | (with_reducible exact take_all _) | (refine Arr.cons (by first | ((repeat (first | (with_reducible exact Take.head) | apply Take.tail)); done) | ((repeat (first | exact Take.head | apply Take.tail)); done)) ?_)))))); clear hK K)
        refine wpPlan_forced ?_
        first | (refine wpOne_skip rfl rfl ?_; (try go_simp)) | (refine wpOne_1 rfl rfl ?_; intro K hK; go_simp; refine hK _ _ ?_ ?_; (focus (first | (with_reducible exact StW.mk' HS) | exact StW.mk' (HS.arr (by repeat (first | exact Arr.nil | (with_reducible exact take_all _) | (refine Arr.cons (by first | ((repeat (first | (with_reducible exact Take.head) | apply Take.tail)); done) | ((repeat (first | exact Take.head | apply Take.tail)); done)) ?_)))))); clear hK K)
        first | (refine wpPlan_skipE rfl rfl ?_; (try go_simp)) | (refine wpPlan_early rfl rfl ?_; intro K hK; (first | go_big_quiet_op); (first | go_big_quiet_on | (refine ⟨_, fun _ => rfl, ?_⟩; go_big_quiet_on)))
        first | (refine wpPlan_skipE rfl rfl ?_; (try go_simp)) | (refine wpPlan_early rfl rfl ?_; intro K hK; (first | go_big_quiet_op); (first | go_big_quiet_on | (refine ⟨_, fun _ => rfl, ?_⟩; go_big_quiet_on)))
        first | (refine wpPlan_skipE rfl rfl ?_; (try go_simp)) | (refine wpPlan_early rfl rfl ?_; intro K hK; (first | ((refine quiet_loadC_st  _ _ rfl rfl sc_int (by first | exact St.cellI0 (by first | ((repeat (first | (with_reducible exact Take.head) | apply Take.tail)); done) | ((repeat (first | exact Take.head | apply Take.tail)); done)) HQ0.out | exact St.cellI (by first | ((repeat (first | (with_reducible exact Take.head) | apply Take.tail)); done) | ((repeat (first | exact Take.head | apply Take.tail)); done)) HQ0.out) ?_); (try go_simp)) | go_big_quiet_op); (first | go_big_quiet_on | (refine ⟨_, fun _ => rfl, ?_⟩; go_big_quiet_on)))
        first | (refine wpPlan_skipE rfl rfl ?_; (try go_simp)) | (refine wpPlan_early rfl rfl ?_; intro K hK; (first | go_big_quiet_op); (first | go_big_quiet_on | (refine ⟨_, fun _ => rfl, ?_⟩; go_big_quiet_on)))
        first | (refine wpPlan_skipE rfl rfl ?_; (try go_simp)) | (refine wpPlan_early rfl rfl ?_; intro K hK; (first | go_big_quiet_op); (first | go_big_quiet_on | (refine ⟨_, fun _ => rfl, ?_⟩; go_big_quiet_on)))
        refine wpPlan_forced ?_
        first | (refine wpOne_skip rfl rfl ?_; (try go_simp)) | (refine wpOne_1 rfl rfl ?_; intro K hK; go_simp; refine hK _ _ ?_ ?_; (focus (first | (with_reducible exact StW.mk' HS) | exact StW.mk' (HS.arr (by repeat (first | exact Arr.nil | (with_reducible exact take_all _) | (refine Arr.cons (by first | ((repeat (first | (with_reducible exact Take.head) | apply Take.tail)); done) | ((repeat (first | exact Take.head | apply Take.tail)); done)) ?_)))))); clear hK K)
        refine wpPlan_forced ?_
        first | (refine wpOne_skip rfl rfl ?_; (try go_simp)) | (refine wpOne_1 rfl rfl ?_; intro K hK; go_simp; refine hK _ _ ?_ ?_; (focus (first | (with_reducible exact StW.mk' HS) | exact StW.mk' (HS.arr (by repeat (first | exact Arr.nil | (with_reducible exact take_all _) | (refine Arr.cons (by first | ((repeat (first | (with_reducible exact Take.head) | apply Take.tail)); done) | ((repeat (first | exact Take.head | apply Take.tail)); done)) ?_)))))); clear hK K)
        refine wpPlan_forced ?_
        first | (refine wpOne_skip rfl rfl ?_; (try go_simp)) | (refine wpOne_1 rfl rfl ?_; intro K hK; (first | (refine wp_loadS_st  _ _ rfl rfl HS (by first | ((repeat (first | (with_reducible exact Take.head) | apply Take.tail)); done) | ((repeat (first | exact Take.head | apply Take.tail)); done)) sc_Sint (by rfl) ?_)); (try go_simp); refine hK _ _ ?_ ?_; (focus (first | (with_reducible exact StW.mk' HS) | exact StW.mk' (HS.arr (by repeat (first | exact Arr.nil | (with_reducible exact take_all _) | (refine Arr.cons (by first | ((repeat (first | (with_reducible exact Take.head) | apply Take.tail)); done) | ((repeat (first | exact Take.head | apply Take.tail)); done)) ?_)))))); clear hK K)
        refine wpPlan_forced ?_
        first | (refine wpOne_skip rfl rfl ?_; (try go_simp)) | (refine wpOne_1 rfl rfl ?_; intro K hK; go_simp; refine hK _ _ ?_ ?_; (focus (first | (with_reducible exact StW.mk' HS) | exact StW.mk' (HS.arr (by repeat (first | exact Arr.nil | (with_reducible exact take_all _) | (refine Arr.cons (by first | ((repeat (first | (with_reducible exact Take.head) | apply Take.tail)); done) | ((repeat (first | exact Take.head | apply Take.tail)); done)) ?_)))))); clear hK K)
        refine wpPlan_forced ?_
        first | (refine wpOne_skip rfl rfl ?_; (try go_simp)) | (refine wpOne_1 rfl rfl ?_; intro K hK; (first | (refine wp_loadC_st  _ _ rfl rfl HS sc_int (by first | exact St.cellI (by first | ((repeat (first | (with_reducible exact Take.head) | apply Take.tail)); done) | ((repeat (first | exact Take.head | apply Take.tail)); done)) HD.out | exact St.cellI (by first | ((repeat (first | (with_reducible exact Take.head) | apply Take.tail)); done) | ((repeat (first | exact Take.head | apply Take.tail)); done)) HD2.out) ?_)); (try go_simp); refine hK _ _ ?_ ?_; (focus (first | (with_reducible exact StW.mk' HS) | exact StW.mk' (HS.arr (by repeat (first | exact Arr.nil | (with_reducible exact take_all _) | (refine Arr.cons (by first | ((repeat (first | (with_reducible exact Take.head) | apply Take.tail)); done) | ((repeat (first | exact Take.head | apply Take.tail)); done)) ?_)))))); clear hK K)
        refine wpPlan_forced ?_
        first | (refine wpOne_skip rfl rfl ?_; (try go_simp)) | (refine wpOne_2 rfl rfl ?_; intro K hK; go_simp; refine hK _ _ ?_; clear hK K)
        refine wpPlan_forced ?_
        first | (refine wpOne_skip rfl rfl ?_; (try go_simp)) | (refine wpOne_2 rfl rfl ?_; intro K hK; go_simp; refine hK _ _ ?_; clear hK K)
        refine wpPlan_done ?_
        go_wp2_with (first
              | ((with_reducible (show wpList _ _ _ (Oper.mk (some 88) (Op.load _ _) _ _ _ _ :: _) _ _)); refine wpList_loadS_st (o := ⟨some 88, .load _ _, _, _, _, _⟩) rfl _ _ rfl rfl HS (by first | ((repeat (first | (with_reducible exact Take.head) | apply Take.tail)); done) | ((repeat (first | exact Take.head | apply Take.tail)); done)) sc_Sint (by rfl) ?_)
              | ((with_reducible (show wpList _ _ _ (Oper.mk none (Op.store _ (.tmp 90) _) _ _ _ _ :: _) _ _)); refine wpList_storeI_st (v := 0) (o := ⟨none, .store _ (.tmp 90) _, _, _, _, _⟩) rfl _ _ _ rfl rfl rfl HS (by first | ((repeat (first | (with_reducible exact Take.head) | apply Take.tail)); done) | ((repeat (first | exact Take.head | apply Take.tail)); done)) sz_int (by first | exact htd | (rw [List.length_set]; exact htd)) (by unfold i64ok; omega) ?_ rfl; clear HS; intro w11_6 hz11_6 HS)
              | ((with_reducible (show wpList _ _ _ (Oper.mk (some 97) (Op.load _ _) _ _ _ _ :: _) _ _)); refine wpList_loadS_st (o := ⟨some 97, .load _ _, _, _, _, _⟩) rfl _ _ rfl rfl HS (by first | ((repeat (first | (with_reducible exact Take.head) | apply Take.tail)); done) | ((repeat (first | exact Take.head | apply Take.tail)); done)) sc_SSint (by rfl) ?_)
              | ((with_reducible (show wpList _ _ _ (Oper.mk none (Op.store _ (.tmp 101) _) _ _ _ _ :: _) _ _)); refine wpList_store_st (o := ⟨none, .store _ (.tmp 101) _, _, _, _, _⟩) rfl _ _ _ rfl rfl (v := .int .i64 _) rfl HS (by first | ((repeat (first | (with_reducible exact Take.head) | apply Take.tail)); done) | ((repeat (first | exact Take.head | apply Take.tail)); done)) sz_int (by simp only [Value.cells]; rfl) (by rfl) (by rfl) (by simp) ?_ rfl; clear HS; intro w12_11 hz12_11 HS; simp only [nicL, Value.cells, List.append_nil] at HS)
              | ((with_reducible (show wpList _ _ _ (Oper.mk none (Op.store _ (.tmp 101) _) _ _ _ _ :: _) _ _)); refine wpList_store_st (o := ⟨none, .store _ (.tmp 101) _, _, _, _, _⟩) rfl _ _ _ rfl rfl (v := _) rfl HS (by first | ((repeat (first | (with_reducible exact Take.head) | apply Take.tail)); done) | ((repeat (first | exact Take.head | apply Take.tail)); done)) sz_int (by simp only [Value.cells]; rfl) (by rfl) (by rfl) (by simp) ?_ rfl; clear HS; intro w12_11 hz12_11 HS; simp only [nicL, Value.cells, List.append_nil] at HS)
              | ((with_reducible (show wpList _ _ _ (Oper.mk none (Op.store _ (.tmp 104) _) _ _ _ _ :: _) _ _)); refine wpList_store_st (o := ⟨none, .store _ (.tmp 104) _, _, _, _, _⟩) rfl _ _ _ rfl rfl (v := .bool _) rfl HS (by first | ((repeat (first | (with_reducible exact Take.head) | apply Take.tail)); done) | ((repeat (first | exact Take.head | apply Take.tail)); done)) sz_bool (by simp only [Value.cells]; rfl) (by rfl) (by rfl) (by simp) ?_ rfl; clear HS; intro w13_3 hz13_3 HS; simp only [nicL, Value.cells, List.append_nil] at HS)
              | ((with_reducible (show wpList _ _ _ (Oper.mk none (Op.store _ (.tmp 104) _) _ _ _ _ :: _) _ _)); refine wpList_store_st (o := ⟨none, .store _ (.tmp 104) _, _, _, _, _⟩) rfl _ _ _ rfl rfl (v := _) rfl HS (by first | ((repeat (first | (with_reducible exact Take.head) | apply Take.tail)); done) | ((repeat (first | exact Take.head | apply Take.tail)); done)) sz_bool (by simp only [Value.cells]; rfl) (by rfl) (by rfl) (by simp) ?_ rfl; clear HS; intro w13_3 hz13_3 HS; simp only [nicL, Value.cells, List.append_nil] at HS))
        replace HS := HS.fill (xs := qs) (by first | ((repeat (first | (with_reducible exact Take.head) | apply Take.tail)); done) | ((repeat (first | exact Take.head | apply Take.tail)); done)) (show Take _ (ownA ([] : List Int) [_]) _ from (by first | ((repeat (first | (with_reducible exact Take.head) | apply Take.tail)); done) | ((repeat (first | exact Take.head | apply Take.tail)); done)))
        rw [set_same htl HQ.out] at HS
        rw [show ((tu : Int) + 1) % (qs.length : Int) = (((tu + 1) % qs.length : Nat) : Int) from by push_cast; rfl] at HS
        go_roundg f
        case measure => omega
        case rel => exact ⟨_, (tu + 1) % qs.length, true, HO.out.nil, HR.out, (HS.arr (.cons (by first | ((repeat (first | (with_reducible exact Take.head) | apply Take.tail)); done) | ((repeat (first | exact Take.head | apply Take.tail)); done)) (.cons (by first | ((repeat (first | (with_reducible exact Take.head) | apply Take.tail)); done) | ((repeat (first | exact Take.head | apply Take.tail)); done)) (.cons (by first | ((repeat (first | (with_reducible exact Take.head) | apply Take.tail)); done) | ((repeat (first | exact Take.head | apply Take.tail)); done)) (by repeat (first | exact take_all _ | exact arr_drop _ _ | exact arr_drop2 _ _ _ | exact Arr.nil))))))⟩
    | cons y l =>
      have hy := ok.q tu htl
      rw [hq] at HS hy
      have hyy := hy.2 y (List.mem_cons_self ..)
      have hl64 := hy.1
      obtain ⟨hy1, hy2⟩ := hyy
      simp only [List.length_cons] at hl64
      clear hy
      obtain ⟨b3, o3, c3, rfl, z1, z2⟩ := ownA.addr HS (show Take _ (ownA (y :: l) [u]) _ from (by first | ((repeat (first | (with_reducible exact Take.head) | apply Take.tail)); done) | ((repeat (first | exact Take.head | apply Take.tail)); done))) (by simp)
      obtain ⟨n3, hn3⟩ : ∃ n, n = (y :: l).length := ⟨_, rfl⟩
      rw [← hn3] at HS z1
      have hn3' : 0 < n3 := by rw [hn3]; simp
      have hn3'' : (0 : Int) < n3 := by omega
      have hn64 : n3 ≤ 64 := by rw [hn3]; simp; omega
      unfold maxLen at z2
      have HQ0 := hid (show (y :: l)[0]? = some y from rfl)
      have hw1 : IntKind.i64.wrap (d + qu) = d + qu := IntWalk.i64_in _ (by omega)
      have hw2 : IntKind.i64.wrap (d - y) = d - y := IntWalk.i64_in _ (by omega)
      have hw3 : IntKind.i64.wrap (d + qu - y) = d + qu - y := IntWalk.i64_in _ (by omega)
      have HN := hid hn3
      have HQ := hid hq
      have HO := hid ok
      clear hn3
      cases fr
      case false =>
        rw [srv_on htl hq htd, HDD.out] at hr
        by_cases hs : y ≤ d
        case pos =>
          rw [if_pos hs] at hr
          simp only [Option.some.injEq, Prod.mk.injEq] at hr
          obtain ⟨rfl, rfl, rfl, rfl⟩ := hr
          clear hq ok
          go_wp2_with (first
                | ((with_reducible (show wpList _ _ _ (Oper.mk (some 9) (Op.load _ _) _ _ _ _ :: _) _ _)); refine wpList_loadS_st (o := ⟨some 9, .load _ _, _, _, _, _⟩) rfl _ _ rfl rfl HS (by first | ((repeat (first | (with_reducible exact Take.head) | apply Take.tail)); done) | ((repeat (first | exact Take.head | apply Take.tail)); done)) sc_int (by rfl) ?_)
                | ((with_reducible (show wpList _ _ _ (Oper.mk (some 13) (Op.load _ _) _ _ _ _ :: _) _ _)); refine wpList_loadS_st (o := ⟨some 13, .load _ _, _, _, _, _⟩) rfl _ _ rfl rfl HS (by first | ((repeat (first | (with_reducible exact Take.head) | apply Take.tail)); done) | ((repeat (first | exact Take.head | apply Take.tail)); done)) sc_SSint (by rfl) ?_)
                | ((with_reducible (show wpList _ _ _ (Oper.mk (some 16) (Op.load _ _) _ _ _ _ :: _) _ _)); refine wpList_loadC_st (o := ⟨some 16, .load _ _, _, _, _, _⟩) rfl _ _ rfl rfl HS sc_Sint (by first | exact St.cellG (by first | ((repeat (first | (with_reducible exact Take.head) | apply Take.tail)); done) | ((repeat (first | exact Take.head | apply Take.tail)); done))) ?_)
                | ((with_reducible (show wpList _ _ _ (Oper.mk (some 20) (Op.load _ _) _ _ _ _ :: _) _ _)); refine wpList_loadS_st (o := ⟨some 20, .load _ _, _, _, _, _⟩) rfl _ _ rfl rfl HS (by first | ((repeat (first | (with_reducible exact Take.head) | apply Take.tail)); done) | ((repeat (first | exact Take.head | apply Take.tail)); done)) sc_bool (by rfl) ?_)
                | ((with_reducible (show wpList _ _ _ (Oper.mk none (Op.store _ (.tmp 41) _) _ _ _ _ :: _) _ _)); refine wpList_store_st (o := ⟨none, .store _ (.tmp 41) _, _, _, _, _⟩) rfl _ _ _ rfl rfl (v := .bool _) rfl HS (by first | ((repeat (first | (with_reducible exact Take.head) | apply Take.tail)); done) | ((repeat (first | exact Take.head | apply Take.tail)); done)) sz_bool (by simp only [Value.cells]; rfl) (by rfl) (by rfl) (by simp) ?_ rfl; clear HS; intro w5_3 hz5_3 HS; simp only [nicL, Value.cells, List.append_nil] at HS)
                | ((with_reducible (show wpList _ _ _ (Oper.mk none (Op.store _ (.tmp 41) _) _ _ _ _ :: _) _ _)); refine wpList_store_st (o := ⟨none, .store _ (.tmp 41) _, _, _, _, _⟩) rfl _ _ _ rfl rfl (v := _) rfl HS (by first | ((repeat (first | (with_reducible exact Take.head) | apply Take.tail)); done) | ((repeat (first | exact Take.head | apply Take.tail)); done)) sz_bool (by simp only [Value.cells]; rfl) (by rfl) (by rfl) (by simp) ?_ rfl; clear HS; intro w5_3 hz5_3 HS; simp only [nicL, Value.cells, List.append_nil] at HS))
          refine wp_region_plan_st HS (.forced 0 1 (.forced 1 1 (.forced 2 1 (.forced 3 1 (.early 4 (.early 5 (.early 6 (.early 7 (.early 11 (.forced 8 1 (.forced 9 1 (.forced 10 1 (.forced 12 1 (.forced 13 1 (.forced 14 2 (.forced 15 2 .done)))))))))))))))) (by kernel_rfl) (by as_aux_lemma => kernel_rfl) ?_
          intro hne
          replace HS := HS.drew
          try go_simp
          refine wpPlan_forced ?_
          first | (refine wpOne_skip rfl rfl ?_; (try go_simp)) | (refine wpOne_1 rfl rfl ?_; intro K hK; go_simp; refine hK _ _ ?_ ?_; (focus (first | (with_reducible exact StW.mk' HS) | exact StW.mk' (HS.arr (by repeat (first | exact Arr.nil | (with_reducible exact take_all _) | (refine Arr.cons (by first | ((repeat (first | (with_reducible exact Take.head) | apply Take.tail)); done) | ((repeat (first | exact Take.head | apply Take.tail)); done)) ?_)))))); clear hK K)
          refine wpPlan_forced ?_
          first | (refine wpOne_skip rfl rfl ?_; (try go_simp)) | (refine wpOne_1 rfl rfl ?_; intro K hK; go_simp; refine hK _ _ ?_ ?_; (focus (first | (with_reducible exact StW.mk' HS) | exact StW.mk' (HS.arr (by repeat (first | exact Arr.nil | (with_reducible exact take_all _) | (refine Arr.cons (by first | ((repeat (first | (with_reducible exact Take.head) | apply Take.tail)); done) | ((repeat (first | exact Take.head | apply Take.tail)); done)) ?_)))))); clear hK K)
          refine wpPlan_forced ?_
          first | (refine wpOne_skip rfl rfl ?_; (try go_simp)) | (refine wpOne_1 rfl rfl ?_; intro K hK; go_simp; refine hK _ _ ?_ ?_; (focus (first | (with_reducible exact StW.mk' HS) | exact StW.mk' (HS.arr (by repeat (first | exact Arr.nil | (with_reducible exact take_all _) | (refine Arr.cons (by first | ((repeat (first | (with_reducible exact Take.head) | apply Take.tail)); done) | ((repeat (first | exact Take.head | apply Take.tail)); done)) ?_)))))); clear hK K)
          refine wpPlan_forced ?_
          first | (refine wpOne_skip rfl rfl ?_; (try go_simp)) | (refine wpOne_1 rfl rfl ?_; intro K hK; go_simp; refine hK _ _ ?_ ?_; (focus (first | (with_reducible exact StW.mk' HS) | exact StW.mk' (HS.arr (by repeat (first | exact Arr.nil | (with_reducible exact take_all _) | (refine Arr.cons (by first | ((repeat (first | (with_reducible exact Take.head) | apply Take.tail)); done) | ((repeat (first | exact Take.head | apply Take.tail)); done)) ?_)))))); clear hK K)
          first | (refine wpPlan_skipE rfl rfl ?_; (try go_simp)) | (refine wpPlan_early rfl rfl ?_; intro K hK; (first | go_big_quiet_op); (first | go_big_quiet_on | (refine ⟨_, fun _ => rfl, ?_⟩; go_big_quiet_on)))
          first | (refine wpPlan_skipE rfl rfl ?_; (try go_simp)) | (refine wpPlan_early rfl rfl ?_; intro K hK; (first | go_big_quiet_op); (first | go_big_quiet_on | (refine ⟨_, fun _ => rfl, ?_⟩; go_big_quiet_on)))
          first | (refine wpPlan_skipE rfl rfl ?_; (try go_simp)) | (refine wpPlan_early rfl rfl ?_; intro K hK; (first | ((refine quiet_loadC_st  _ _ rfl rfl sc_int (by first | exact St.cellI0 (by first | ((repeat (first | (with_reducible exact Take.head) | apply Take.tail)); done) | ((repeat (first | exact Take.head | apply Take.tail)); done)) HQ0.out | exact St.cellI (by first | ((repeat (first | (with_reducible exact Take.head) | apply Take.tail)); done) | ((repeat (first | exact Take.head | apply Take.tail)); done)) HQ0.out) ?_); (try go_simp)) | go_big_quiet_op); (first | go_big_quiet_on | (refine ⟨_, fun _ => rfl, ?_⟩; go_big_quiet_on)))
          first | (refine wpPlan_skipE rfl rfl ?_; (try go_simp)) | (refine wpPlan_early rfl rfl ?_; intro K hK; (first | go_big_quiet_op); (first | go_big_quiet_on | (refine ⟨_, fun _ => rfl, ?_⟩; go_big_quiet_on)))
          first | (refine wpPlan_skipE rfl rfl ?_; (try go_simp)) | (refine wpPlan_early rfl rfl ?_; intro K hK; (first | go_big_quiet_op); (first | go_big_quiet_on | (refine ⟨_, fun _ => rfl, ?_⟩; go_big_quiet_on)))
          refine wpPlan_forced ?_
          first | (refine wpOne_skip rfl rfl ?_; (try go_simp)) | (refine wpOne_1 rfl rfl ?_; intro K hK; go_simp; refine hK _ _ ?_ ?_; (focus (first | (with_reducible exact StW.mk' HS) | exact StW.mk' (HS.arr (by repeat (first | exact Arr.nil | (with_reducible exact take_all _) | (refine Arr.cons (by first | ((repeat (first | (with_reducible exact Take.head) | apply Take.tail)); done) | ((repeat (first | exact Take.head | apply Take.tail)); done)) ?_)))))); clear hK K)
          refine wpPlan_forced ?_
          first | (refine wpOne_skip rfl rfl ?_; (try go_simp)) | (refine wpOne_1 rfl rfl ?_; intro K hK; go_simp; refine hK _ _ ?_ ?_; (focus (first | (with_reducible exact StW.mk' HS) | exact StW.mk' (HS.arr (by repeat (first | exact Arr.nil | (with_reducible exact take_all _) | (refine Arr.cons (by first | ((repeat (first | (with_reducible exact Take.head) | apply Take.tail)); done) | ((repeat (first | exact Take.head | apply Take.tail)); done)) ?_)))))); clear hK K)
          refine wpPlan_forced ?_
          first | (refine wpOne_skip rfl rfl ?_; (try go_simp)) | (refine wpOne_1 rfl rfl ?_; intro K hK; (first | (refine wp_loadS_st  _ _ rfl rfl HS (by first | ((repeat (first | (with_reducible exact Take.head) | apply Take.tail)); done) | ((repeat (first | exact Take.head | apply Take.tail)); done)) sc_Sint (by rfl) ?_)); (try go_simp); refine hK _ _ ?_ ?_; (focus (first | (with_reducible exact StW.mk' HS) | exact StW.mk' (HS.arr (by repeat (first | exact Arr.nil | (with_reducible exact take_all _) | (refine Arr.cons (by first | ((repeat (first | (with_reducible exact Take.head) | apply Take.tail)); done) | ((repeat (first | exact Take.head | apply Take.tail)); done)) ?_)))))); clear hK K)
          refine wpPlan_forced ?_
          first | (refine wpOne_skip rfl rfl ?_; (try go_simp)) | (refine wpOne_1 rfl rfl ?_; intro K hK; go_simp; refine hK _ _ ?_ ?_; (focus (first | (with_reducible exact StW.mk' HS) | exact StW.mk' (HS.arr (by repeat (first | exact Arr.nil | (with_reducible exact take_all _) | (refine Arr.cons (by first | ((repeat (first | (with_reducible exact Take.head) | apply Take.tail)); done) | ((repeat (first | exact Take.head | apply Take.tail)); done)) ?_)))))); clear hK K)
          refine wpPlan_forced ?_
          first | (refine wpOne_skip rfl rfl ?_; (try go_simp)) | (refine wpOne_1 rfl rfl ?_; intro K hK; (first | (refine wp_loadC_st  _ _ rfl rfl HS sc_int (by first | exact St.cellI (by first | ((repeat (first | (with_reducible exact Take.head) | apply Take.tail)); done) | ((repeat (first | exact Take.head | apply Take.tail)); done)) HD.out | exact St.cellI (by first | ((repeat (first | (with_reducible exact Take.head) | apply Take.tail)); done) | ((repeat (first | exact Take.head | apply Take.tail)); done)) HD2.out) ?_)); (try go_simp); refine hK _ _ ?_ ?_; (focus (first | (with_reducible exact StW.mk' HS) | exact StW.mk' (HS.arr (by repeat (first | exact Arr.nil | (with_reducible exact take_all _) | (refine Arr.cons (by first | ((repeat (first | (with_reducible exact Take.head) | apply Take.tail)); done) | ((repeat (first | exact Take.head | apply Take.tail)); done)) ?_)))))); clear hK K)
          refine wpPlan_forced ?_
          first | (refine wpOne_skip rfl rfl ?_; (try go_simp)) | (refine wpOne_2 rfl rfl ?_; intro K hK; go_simp; refine hK _ _ ?_; clear hK K)
          refine wpPlan_forced ?_
          first | (refine wpOne_skip rfl rfl ?_; (try go_simp)) | (refine wpOne_2 rfl rfl ?_; intro K hK; go_simp; refine hK _ _ ?_; clear hK K)
          refine wpPlan_done ?_
          go_wp2
          refine wp_region_plan_st HS (.early 0 (.early 4 (.early 5 (.early 6 (.forced 1 1 (.forced 2 1 (.forced 3 1 (.forced 7 2 (.forced 8 2 .done))))))))) (by kernel_rfl) (by as_aux_lemma => kernel_rfl) ?_
          intro hne
          replace HS := HS.drew
          try go_simp
          first | (refine wpPlan_skipE rfl rfl ?_; (try go_simp)) | (refine wpPlan_early rfl rfl ?_; intro K hK; (first | go_big_quiet_op); (first | go_big_quiet_on | (refine ⟨_, fun _ => rfl, ?_⟩; go_big_quiet_on)))
          first | (refine wpPlan_skipE rfl rfl ?_; (try go_simp)) | (refine wpPlan_early rfl rfl ?_; intro K hK; (first | go_big_quiet_op); (first | go_big_quiet_on | (refine ⟨_, fun _ => rfl, ?_⟩; go_big_quiet_on)))
          first | (refine wpPlan_skipE rfl rfl ?_; (try go_simp)) | (refine wpPlan_early rfl rfl ?_; intro K hK; (first | go_big_quiet_op); (first | go_big_quiet_on | (refine ⟨_, fun _ => rfl, ?_⟩; go_big_quiet_on)))
          first | (refine wpPlan_skipE rfl rfl ?_; (try go_simp)) | (refine wpPlan_early rfl rfl ?_; intro K hK; (first | ((refine quiet_pure (pure_cutLo (l := 1) _ _ _ rfl _ Try.underlying25 in_int rfl rfl (by omega)) ?_); (try go_simp)) | go_big_quiet_op); (first | go_big_quiet_on | (refine ⟨_, fun _ => rfl, ?_⟩; go_big_quiet_on)))
          refine wpPlan_forced ?_
          first | (refine wpOne_skip rfl rfl ?_; (try go_simp)) | (refine wpOne_1 rfl rfl ?_; intro K hK; go_simp; refine hK _ _ ?_ ?_; (focus (first | (with_reducible exact StW.mk' HS) | exact StW.mk' (HS.arr (by repeat (first | exact Arr.nil | (with_reducible exact take_all _) | (refine Arr.cons (by first | ((repeat (first | (with_reducible exact Take.head) | apply Take.tail)); done) | ((repeat (first | exact Take.head | apply Take.tail)); done)) ?_)))))); clear hK K)
          refine wpPlan_forced ?_
          first | (refine wpOne_skip rfl rfl ?_; (try go_simp)) | (refine wpOne_1 rfl rfl ?_; intro K hK; go_simp; refine hK _ _ ?_ ?_; (focus (first | (with_reducible exact StW.mk' HS) | exact StW.mk' (HS.arr (by repeat (first | exact Arr.nil | (with_reducible exact take_all _) | (refine Arr.cons (by first | ((repeat (first | (with_reducible exact Take.head) | apply Take.tail)); done) | ((repeat (first | exact Take.head | apply Take.tail)); done)) ?_)))))); clear hK K)
          refine wpPlan_forced ?_
          first | (refine wpOne_skip rfl rfl ?_; (try go_simp)) | (refine wpOne_1 rfl rfl ?_; intro K hK; (first | (refine wp_loadS_st  _ _ rfl rfl HS (by first | ((repeat (first | (with_reducible exact Take.head) | apply Take.tail)); done) | ((repeat (first | exact Take.head | apply Take.tail)); done)) sc_SSint (by rfl) ?_)); (try go_simp); refine hK _ _ ?_ ?_; (focus (first | (with_reducible exact StW.mk' HS) | exact StW.mk' (HS.arr (by repeat (first | exact Arr.nil | (with_reducible exact take_all _) | (refine Arr.cons (by first | ((repeat (first | (with_reducible exact Take.head) | apply Take.tail)); done) | ((repeat (first | exact Take.head | apply Take.tail)); done)) ?_)))))); clear hK K)
          refine wpPlan_forced ?_
          first | (refine wpOne_skip rfl rfl ?_; (try go_simp)) | (refine wpOne_2 rfl rfl ?_; intro K hK; go_simp; refine hK _ _ ?_; clear hK K)
          refine wpPlan_forced ?_
          first | (refine wpOne_skip rfl rfl ?_; (try go_simp)) | (refine wpOne_2 rfl rfl ?_; intro K hK; (first | (refine wp_storeG_st  _ _ _ rfl rfl rfl HS (by first | ((repeat (first | (with_reducible exact Take.head) | apply Take.tail)); done) | ((repeat (first | exact Take.head | apply Take.tail)); done)) sz_Sint rfl rfl ?_ rfl; clear HS; intro w7_8 hz7_8 HS)); (try go_simp); refine hK _ _ ?_; clear hK K)
          refine wpPlan_done ?_
          go_wp2
          refine wp_region_plan_st HS (.early 0 (.early 4 (.early 7 (.early 8 (.early 9 (.forced 1 1 (.forced 2 1 (.forced 3 1 (.forced 5 1 (.forced 6 1 (.forced 10 2 (.forced 11 2 (.forced 12 2 .done))))))))))))) (by kernel_rfl) (by as_aux_lemma => kernel_rfl) ?_
          intro hne
          replace HS := HS.drew
          try go_simp
          first | (refine wpPlan_skipE rfl rfl ?_; (try go_simp)) | (refine wpPlan_early rfl rfl ?_; intro K hK; (first | go_big_quiet_op); (first | go_big_quiet_on | (refine ⟨_, fun _ => rfl, ?_⟩; go_big_quiet_on)))
          first | (refine wpPlan_skipE rfl rfl ?_; (try go_simp)) | (refine wpPlan_early rfl rfl ?_; intro K hK; (first | go_big_quiet_op); (first | go_big_quiet_on | (refine ⟨_, fun _ => rfl, ?_⟩; go_big_quiet_on)))
          first | (refine wpPlan_skipE rfl rfl ?_; (try go_simp)) | (refine wpPlan_early rfl rfl ?_; intro K hK; (first | go_big_quiet_op); (first | go_big_quiet_on | (refine ⟨_, fun _ => rfl, ?_⟩; go_big_quiet_on)))
          first | (refine wpPlan_skipE rfl rfl ?_; (try go_simp)) | (refine wpPlan_early rfl rfl ?_; intro K hK; (first | go_big_quiet_op); (first | go_big_quiet_on | (refine ⟨_, fun _ => rfl, ?_⟩; go_big_quiet_on)))
          first | (refine wpPlan_skipE rfl rfl ?_; (try go_simp)) | (refine wpPlan_early rfl rfl ?_; intro K hK; (first | ((refine quiet_loadC_st  _ _ rfl rfl sc_int (by first | exact St.cellI0 (by first | ((repeat (first | (with_reducible exact Take.head) | apply Take.tail)); done) | ((repeat (first | exact Take.head | apply Take.tail)); done)) HQ0.out | exact St.cellI (by first | ((repeat (first | (with_reducible exact Take.head) | apply Take.tail)); done) | ((repeat (first | exact Take.head | apply Take.tail)); done)) HQ0.out) ?_); (try go_simp)) | go_big_quiet_op); (first | go_big_quiet_on | (refine ⟨_, fun _ => rfl, ?_⟩; go_big_quiet_on)))
          refine wpPlan_forced ?_
          first | (refine wpOne_skip rfl rfl ?_; (try go_simp)) | (refine wpOne_1 rfl rfl ?_; intro K hK; go_simp; refine hK _ _ ?_ ?_; (focus (first | (with_reducible exact StW.mk' HS) | exact StW.mk' (HS.arr (by repeat (first | exact Arr.nil | (with_reducible exact take_all _) | (refine Arr.cons (by first | ((repeat (first | (with_reducible exact Take.head) | apply Take.tail)); done) | ((repeat (first | exact Take.head | apply Take.tail)); done)) ?_)))))); clear hK K)
          refine wpPlan_forced ?_
          first | (refine wpOne_skip rfl rfl ?_; (try go_simp)) | (refine wpOne_1 rfl rfl ?_; intro K hK; go_simp; refine hK _ _ ?_ ?_; (focus (first | (with_reducible exact StW.mk' HS) | exact StW.mk' (HS.arr (by repeat (first | exact Arr.nil | (with_reducible exact take_all _) | (refine Arr.cons (by first | ((repeat (first | (with_reducible exact Take.head) | apply Take.tail)); done) | ((repeat (first | exact Take.head | apply Take.tail)); done)) ?_)))))); clear hK K)
          refine wpPlan_forced ?_
          first | (refine wpOne_skip rfl rfl ?_; (try go_simp)) | (refine wpOne_1 rfl rfl ?_; intro K hK; (first | (refine wp_loadS_st  _ _ rfl rfl HS (by first | ((repeat (first | (with_reducible exact Take.head) | apply Take.tail)); done) | ((repeat (first | exact Take.head | apply Take.tail)); done)) sc_Sint (by rfl) ?_)); (try go_simp); refine hK _ _ ?_ ?_; (focus (first | (with_reducible exact StW.mk' HS) | exact StW.mk' (HS.arr (by repeat (first | exact Arr.nil | (with_reducible exact take_all _) | (refine Arr.cons (by first | ((repeat (first | (with_reducible exact Take.head) | apply Take.tail)); done) | ((repeat (first | exact Take.head | apply Take.tail)); done)) ?_)))))); clear hK K)
          refine wpPlan_forced ?_
          first | (refine wpOne_skip rfl rfl ?_; (try go_simp)) | (refine wpOne_1 rfl rfl ?_; intro K hK; go_simp; refine hK _ _ ?_ ?_; (focus (first | (with_reducible exact StW.mk' HS) | exact StW.mk' (HS.arr (by repeat (first | exact Arr.nil | (with_reducible exact take_all _) | (refine Arr.cons (by first | ((repeat (first | (with_reducible exact Take.head) | apply Take.tail)); done) | ((repeat (first | exact Take.head | apply Take.tail)); done)) ?_)))))); clear hK K)
          refine wpPlan_forced ?_
          first | (refine wpOne_skip rfl rfl ?_; (try go_simp)) | (refine wpOne_1 rfl rfl ?_; intro K hK; (first | (refine wp_loadC_st  _ _ rfl rfl HS sc_int (by first | exact St.cellI (by first | ((repeat (first | (with_reducible exact Take.head) | apply Take.tail)); done) | ((repeat (first | exact Take.head | apply Take.tail)); done)) HD.out | exact St.cellI (by first | ((repeat (first | (with_reducible exact Take.head) | apply Take.tail)); done) | ((repeat (first | exact Take.head | apply Take.tail)); done)) HD2.out) ?_)); (try go_simp); refine hK _ _ ?_ ?_; (focus (first | (with_reducible exact StW.mk' HS) | exact StW.mk' (HS.arr (by repeat (first | exact Arr.nil | (with_reducible exact take_all _) | (refine Arr.cons (by first | ((repeat (first | (with_reducible exact Take.head) | apply Take.tail)); done) | ((repeat (first | exact Take.head | apply Take.tail)); done)) ?_)))))); clear hK K)
          refine wpPlan_forced ?_
          first | (refine wpOne_skip rfl rfl ?_; (try go_simp)) | (refine wpOne_2 rfl rfl ?_; intro K hK; go_simp; refine hK _ _ ?_; clear hK K)
          refine wpPlan_forced ?_
          first | (refine wpOne_skip rfl rfl ?_; (try go_simp)) | (refine wpOne_2 rfl rfl ?_; intro K hK; go_simp; refine hK _ _ ?_; clear hK K)
          refine wpPlan_forced ?_
          first | (refine wpOne_skip rfl rfl ?_; (try go_simp)) | (refine wpOne_2 rfl rfl ?_; intro K hK; (first | (refine wp_storeI_st  (v := d - y) _ _ _ rfl rfl rfl HS (by first | ((repeat (first | (with_reducible exact Take.head) | apply Take.tail)); done) | ((repeat (first | exact Take.head | apply Take.tail)); done)) sz_int (by first | exact htd | (rw [List.length_set]; exact htd)) (by unfold i64ok; omega) ?_ rfl; clear HS; intro w8_12 hz8_12 HS)); (try go_simp); refine hK _ _ ?_; clear hK K)
          refine wpPlan_done ?_
          go_wp2
          refine wp_region_plan_st HS (.early 0 (.early 1 (.early 2 (.early 3 (.forced 4 1 (.forced 5 2 .done)))))) (by kernel_rfl) (by as_aux_lemma => kernel_rfl) ?_
          intro hne
          replace HS := HS.drew
          try go_simp
          first | (refine wpPlan_skipE rfl rfl ?_; (try go_simp)) | (refine wpPlan_early rfl rfl ?_; intro K hK; (first | go_big_quiet_op); (first | go_big_quiet_on | (refine ⟨_, fun _ => rfl, ?_⟩; go_big_quiet_on)))
          first | (refine wpPlan_skipE rfl rfl ?_; (try go_simp)) | (refine wpPlan_early rfl rfl ?_; intro K hK; (first | go_big_quiet_op); (first | go_big_quiet_on | (refine ⟨_, fun _ => rfl, ?_⟩; go_big_quiet_on)))
          first | (refine wpPlan_skipE rfl rfl ?_; (try go_simp)) | (refine wpPlan_early rfl rfl ?_; intro K hK; (first | go_big_quiet_op); (first | go_big_quiet_on | (refine ⟨_, fun _ => rfl, ?_⟩; go_big_quiet_on)))
          first | (refine wpPlan_skipE rfl rfl ?_; (try go_simp)) | (refine wpPlan_early rfl rfl ?_; intro K hK; (first | ((refine quiet_loadC_st  _ _ rfl rfl sc_int (by first | exact St.cellI0 (by first | ((repeat (first | (with_reducible exact Take.head) | apply Take.tail)); done) | ((repeat (first | exact Take.head | apply Take.tail)); done)) HQ0.out | exact St.cellI (by first | ((repeat (first | (with_reducible exact Take.head) | apply Take.tail)); done) | ((repeat (first | exact Take.head | apply Take.tail)); done)) HQ0.out) ?_); (try go_simp)) | go_big_quiet_op); (first | go_big_quiet_on | (refine ⟨_, fun _ => rfl, ?_⟩; go_big_quiet_on)))
          refine wpPlan_forced ?_
          first | (refine wpOne_skip rfl rfl ?_; (try go_simp)) | (refine wpOne_1 rfl rfl ?_; intro K hK; go_simp; refine hK _ _ ?_ ?_; (focus (first | (with_reducible exact StW.mk' HS) | exact StW.mk' (HS.arr (by repeat (first | exact Arr.nil | (with_reducible exact take_all _) | (refine Arr.cons (by first | ((repeat (first | (with_reducible exact Take.head) | apply Take.tail)); done) | ((repeat (first | exact Take.head | apply Take.tail)); done)) ?_)))))); clear hK K)
          refine wpPlan_forced ?_
          first | (refine wpOne_skip rfl rfl ?_; (try go_simp)) | (refine wpOne_2 rfl rfl ?_; intro K hK; go_simp; refine hK _ _ ?_; clear hK K)
          refine wpPlan_done ?_
          go_wp2
          replace HS := HS.cutOwn (xs := y :: l) (l := 1) (sz := 1) (by first | ((repeat (first | (with_reducible exact Take.head) | apply Take.tail)); done) | ((repeat (first | exact Take.head | apply Take.tail)); done)) (by omega) rfl
          replace HS := HS.fill (xs := qs) (by first | ((repeat (first | (with_reducible exact Take.head) | apply Take.tail)); done) | ((repeat (first | exact Take.head | apply Take.tail)); done)) (show Take _ (ownA ((y :: l).drop 1) [_]) _ from (by first | ((repeat (first | (with_reducible exact Take.head) | apply Take.tail)); done) | ((repeat (first | exact Take.head | apply Take.tail)); done)))
          refine bodyPost_rets (by rfl) (RVs.tmp (by rfl) (RVs.tmp (by rfl) RVs.nil)) (by simp) (by rfl) ?_
          exact ⟨rfl, (HS.arr (.cons (by first | ((repeat (first | (with_reducible exact Take.head) | apply Take.tail)); done) | ((repeat (first | exact Take.head | apply Take.tail)); done)) (.cons (by first | ((repeat (first | (with_reducible exact Take.head) | apply Take.tail)); done) | ((repeat (first | exact Take.head | apply Take.tail)); done)) (.cons (by first | ((repeat (first | (with_reducible exact Take.head) | apply Take.tail)); done) | ((repeat (first | exact Take.head | apply Take.tail)); done)) (by repeat (first | exact take_all _ | exact arr_drop _ _ | exact arr_drop2 _ _ _ | exact Arr.nil))))))⟩
        case neg =>
          rw [if_neg hs] at hr
          have HR := hid hr
          clear hr hq ok
          go_wp2_with (first
                | ((with_reducible (show wpList _ _ _ (Oper.mk (some 9) (Op.load _ _) _ _ _ _ :: _) _ _)); refine wpList_loadS_st (o := ⟨some 9, .load _ _, _, _, _, _⟩) rfl _ _ rfl rfl HS (by first | ((repeat (first | (with_reducible exact Take.head) | apply Take.tail)); done) | ((repeat (first | exact Take.head | apply Take.tail)); done)) sc_int (by rfl) ?_)
                | ((with_reducible (show wpList _ _ _ (Oper.mk (some 13) (Op.load _ _) _ _ _ _ :: _) _ _)); refine wpList_loadS_st (o := ⟨some 13, .load _ _, _, _, _, _⟩) rfl _ _ rfl rfl HS (by first | ((repeat (first | (with_reducible exact Take.head) | apply Take.tail)); done) | ((repeat (first | exact Take.head | apply Take.tail)); done)) sc_SSint (by rfl) ?_)
                | ((with_reducible (show wpList _ _ _ (Oper.mk (some 16) (Op.load _ _) _ _ _ _ :: _) _ _)); refine wpList_loadC_st (o := ⟨some 16, .load _ _, _, _, _, _⟩) rfl _ _ rfl rfl HS sc_Sint (by first | exact St.cellG (by first | ((repeat (first | (with_reducible exact Take.head) | apply Take.tail)); done) | ((repeat (first | exact Take.head | apply Take.tail)); done))) ?_)
                | ((with_reducible (show wpList _ _ _ (Oper.mk (some 20) (Op.load _ _) _ _ _ _ :: _) _ _)); refine wpList_loadS_st (o := ⟨some 20, .load _ _, _, _, _, _⟩) rfl _ _ rfl rfl HS (by first | ((repeat (first | (with_reducible exact Take.head) | apply Take.tail)); done) | ((repeat (first | exact Take.head | apply Take.tail)); done)) sc_bool (by rfl) ?_)
                | ((with_reducible (show wpList _ _ _ (Oper.mk none (Op.store _ (.tmp 41) _) _ _ _ _ :: _) _ _)); refine wpList_store_st (o := ⟨none, .store _ (.tmp 41) _, _, _, _, _⟩) rfl _ _ _ rfl rfl (v := .bool _) rfl HS (by first | ((repeat (first | (with_reducible exact Take.head) | apply Take.tail)); done) | ((repeat (first | exact Take.head | apply Take.tail)); done)) sz_bool (by simp only [Value.cells]; rfl) (by rfl) (by rfl) (by simp) ?_ rfl; clear HS; intro w5_3 hz5_3 HS; simp only [nicL, Value.cells, List.append_nil] at HS)
                | ((with_reducible (show wpList _ _ _ (Oper.mk none (Op.store _ (.tmp 41) _) _ _ _ _ :: _) _ _)); refine wpList_store_st (o := ⟨none, .store _ (.tmp 41) _, _, _, _, _⟩) rfl _ _ _ rfl rfl (v := _) rfl HS (by first | ((repeat (first | (with_reducible exact Take.head) | apply Take.tail)); done) | ((repeat (first | exact Take.head | apply Take.tail)); done)) sz_bool (by simp only [Value.cells]; rfl) (by rfl) (by rfl) (by simp) ?_ rfl; clear HS; intro w5_3 hz5_3 HS; simp only [nicL, Value.cells, List.append_nil] at HS))
          refine wp_region_plan_st HS (.forced 0 1 (.forced 1 1 (.forced 2 1 (.forced 3 1 (.early 4 (.early 5 (.early 6 (.early 7 (.early 11 (.forced 8 1 (.forced 9 1 (.forced 10 1 (.forced 12 1 (.forced 13 1 (.forced 14 2 (.forced 15 2 .done)))))))))))))))) (by kernel_rfl) (by as_aux_lemma => kernel_rfl) ?_
          intro hne
          replace HS := HS.drew
          try go_simp
          refine wpPlan_forced ?_
          first | (refine wpOne_skip rfl rfl ?_; (try go_simp)) | (refine wpOne_1 rfl rfl ?_; intro K hK; go_simp; refine hK _ _ ?_ ?_; (focus (first | (with_reducible exact StW.mk' HS) | exact StW.mk' (HS.arr (by repeat (first | exact Arr.nil | (with_reducible exact take_all _) | (refine Arr.cons (by first | ((repeat (first | (with_reducible exact Take.head) | apply Take.tail)); done) | ((repeat (first | exact Take.head | apply Take.tail)); done)) ?_)))))); clear hK K)
          refine wpPlan_forced ?_
          first | (refine wpOne_skip rfl rfl ?_; (try go_simp)) | (refine wpOne_1 rfl rfl ?_; intro K hK; go_simp; refine hK _ _ ?_ ?_; (focus (first | (with_reducible exact StW.mk' HS) | exact StW.mk' (HS.arr (by repeat (first | exact Arr.nil | (with_reducible exact take_all _) | (refine Arr.cons (by first | ((repeat (first | (with_reducible exact Take.head) | apply Take.tail)); done) | ((repeat (first | exact Take.head | apply Take.tail)); done)) ?_)))))); clear hK K)
          refine wpPlan_forced ?_
          first | (refine wpOne_skip rfl rfl ?_; (try go_simp)) | (refine wpOne_1 rfl rfl ?_; intro K hK; go_simp; refine hK _ _ ?_ ?_; (focus (first | (with_reducible exact StW.mk' HS) | exact StW.mk' (HS.arr (by repeat (first | exact Arr.nil | (with_reducible exact take_all _) | (refine Arr.cons (by first | ((repeat (first | (with_reducible exact Take.head) | apply Take.tail)); done) | ((repeat (first | exact Take.head | apply Take.tail)); done)) ?_)))))); clear hK K)
          refine wpPlan_forced ?_
          first | (refine wpOne_skip rfl rfl ?_; (try go_simp)) | (refine wpOne_1 rfl rfl ?_; intro K hK; go_simp; refine hK _ _ ?_ ?_; (focus (first | (with_reducible exact StW.mk' HS) | exact StW.mk' (HS.arr (by repeat (first | exact Arr.nil | (with_reducible exact take_all _) | (refine Arr.cons (by first | ((repeat (first | (with_reducible exact Take.head) | apply Take.tail)); done) | ((repeat (first | exact Take.head | apply Take.tail)); done)) ?_)))))); clear hK K)
          first | (refine wpPlan_skipE rfl rfl ?_; (try go_simp)) | (refine wpPlan_early rfl rfl ?_; intro K hK; (first | go_big_quiet_op); (first | go_big_quiet_on | (refine ⟨_, fun _ => rfl, ?_⟩; go_big_quiet_on)))
          first | (refine wpPlan_skipE rfl rfl ?_; (try go_simp)) | (refine wpPlan_early rfl rfl ?_; intro K hK; (first | go_big_quiet_op); (first | go_big_quiet_on | (refine ⟨_, fun _ => rfl, ?_⟩; go_big_quiet_on)))
          first | (refine wpPlan_skipE rfl rfl ?_; (try go_simp)) | (refine wpPlan_early rfl rfl ?_; intro K hK; (first | ((refine quiet_loadC_st  _ _ rfl rfl sc_int (by first | exact St.cellI0 (by first | ((repeat (first | (with_reducible exact Take.head) | apply Take.tail)); done) | ((repeat (first | exact Take.head | apply Take.tail)); done)) HQ0.out | exact St.cellI (by first | ((repeat (first | (with_reducible exact Take.head) | apply Take.tail)); done) | ((repeat (first | exact Take.head | apply Take.tail)); done)) HQ0.out) ?_); (try go_simp)) | go_big_quiet_op); (first | go_big_quiet_on | (refine ⟨_, fun _ => rfl, ?_⟩; go_big_quiet_on)))
          first | (refine wpPlan_skipE rfl rfl ?_; (try go_simp)) | (refine wpPlan_early rfl rfl ?_; intro K hK; (first | go_big_quiet_op); (first | go_big_quiet_on | (refine ⟨_, fun _ => rfl, ?_⟩; go_big_quiet_on)))
          first | (refine wpPlan_skipE rfl rfl ?_; (try go_simp)) | (refine wpPlan_early rfl rfl ?_; intro K hK; (first | go_big_quiet_op); (first | go_big_quiet_on | (refine ⟨_, fun _ => rfl, ?_⟩; go_big_quiet_on)))
          refine wpPlan_forced ?_
          first | (refine wpOne_skip rfl rfl ?_; (try go_simp)) | (refine wpOne_1 rfl rfl ?_; intro K hK; go_simp; refine hK _ _ ?_ ?_; (focus (first | (with_reducible exact StW.mk' HS) | exact StW.mk' (HS.arr (by repeat (first | exact Arr.nil | (with_reducible exact take_all _) | (refine Arr.cons (by first | ((repeat (first | (with_reducible exact Take.head) | apply Take.tail)); done) | ((repeat (first | exact Take.head | apply Take.tail)); done)) ?_)))))); clear hK K)
          refine wpPlan_forced ?_
          first | (refine wpOne_skip rfl rfl ?_; (try go_simp)) | (refine wpOne_1 rfl rfl ?_; intro K hK; go_simp; refine hK _ _ ?_ ?_; (focus (first | (with_reducible exact StW.mk' HS) | exact StW.mk' (HS.arr (by repeat (first | exact Arr.nil | (with_reducible exact take_all _) | (refine Arr.cons (by first | ((repeat (first | (with_reducible exact Take.head) | apply Take.tail)); done) | ((repeat (first | exact Take.head | apply Take.tail)); done)) ?_)))))); clear hK K)
          refine wpPlan_forced ?_
          first | (refine wpOne_skip rfl rfl ?_; (try go_simp)) | (refine wpOne_1 rfl rfl ?_; intro K hK; (first | (refine wp_loadS_st  _ _ rfl rfl HS (by first | ((repeat (first | (with_reducible exact Take.head) | apply Take.tail)); done) | ((repeat (first | exact Take.head | apply Take.tail)); done)) sc_Sint (by rfl) ?_)); (try go_simp); refine hK _ _ ?_ ?_; (focus (first | (with_reducible exact StW.mk' HS) | exact StW.mk' (HS.arr (by repeat (first | exact Arr.nil | (with_reducible exact take_all _) | (refine Arr.cons (by first | ((repeat (first | (with_reducible exact Take.head) | apply Take.tail)); done) | ((repeat (first | exact Take.head | apply Take.tail)); done)) ?_)))))); clear hK K)
          refine wpPlan_forced ?_
          first | (refine wpOne_skip rfl rfl ?_; (try go_simp)) | (refine wpOne_1 rfl rfl ?_; intro K hK; go_simp; refine hK _ _ ?_ ?_; (focus (first | (with_reducible exact StW.mk' HS) | exact StW.mk' (HS.arr (by repeat (first | exact Arr.nil | (with_reducible exact take_all _) | (refine Arr.cons (by first | ((repeat (first | (with_reducible exact Take.head) | apply Take.tail)); done) | ((repeat (first | exact Take.head | apply Take.tail)); done)) ?_)))))); clear hK K)
          refine wpPlan_forced ?_
          first | (refine wpOne_skip rfl rfl ?_; (try go_simp)) | (refine wpOne_1 rfl rfl ?_; intro K hK; (first | (refine wp_loadC_st  _ _ rfl rfl HS sc_int (by first | exact St.cellI (by first | ((repeat (first | (with_reducible exact Take.head) | apply Take.tail)); done) | ((repeat (first | exact Take.head | apply Take.tail)); done)) HD.out | exact St.cellI (by first | ((repeat (first | (with_reducible exact Take.head) | apply Take.tail)); done) | ((repeat (first | exact Take.head | apply Take.tail)); done)) HD2.out) ?_)); (try go_simp); refine hK _ _ ?_ ?_; (focus (first | (with_reducible exact StW.mk' HS) | exact StW.mk' (HS.arr (by repeat (first | exact Arr.nil | (with_reducible exact take_all _) | (refine Arr.cons (by first | ((repeat (first | (with_reducible exact Take.head) | apply Take.tail)); done) | ((repeat (first | exact Take.head | apply Take.tail)); done)) ?_)))))); clear hK K)
          refine wpPlan_forced ?_
          first | (refine wpOne_skip rfl rfl ?_; (try go_simp)) | (refine wpOne_2 rfl rfl ?_; intro K hK; go_simp; refine hK _ _ ?_; clear hK K)
          refine wpPlan_forced ?_
          first | (refine wpOne_skip rfl rfl ?_; (try go_simp)) | (refine wpOne_2 rfl rfl ?_; intro K hK; go_simp; refine hK _ _ ?_; clear hK K)
          refine wpPlan_done ?_
          go_wp2_with (first
                | ((with_reducible (show wpList _ _ _ (Oper.mk (some 88) (Op.load _ _) _ _ _ _ :: _) _ _)); refine wpList_loadS_st (o := ⟨some 88, .load _ _, _, _, _, _⟩) rfl _ _ rfl rfl HS (by first | ((repeat (first | (with_reducible exact Take.head) | apply Take.tail)); done) | ((repeat (first | exact Take.head | apply Take.tail)); done)) sc_Sint (by rfl) ?_)
                | ((with_reducible (show wpList _ _ _ (Oper.mk none (Op.store _ (.tmp 90) _) _ _ _ _ :: _) _ _)); refine wpList_storeI_st (v := 0) (o := ⟨none, .store _ (.tmp 90) _, _, _, _, _⟩) rfl _ _ _ rfl rfl rfl HS (by first | ((repeat (first | (with_reducible exact Take.head) | apply Take.tail)); done) | ((repeat (first | exact Take.head | apply Take.tail)); done)) sz_int (by first | exact htd | (rw [List.length_set]; exact htd)) (by unfold i64ok; omega) ?_ rfl; clear HS; intro w11_6 hz11_6 HS)
                | ((with_reducible (show wpList _ _ _ (Oper.mk (some 97) (Op.load _ _) _ _ _ _ :: _) _ _)); refine wpList_loadS_st (o := ⟨some 97, .load _ _, _, _, _, _⟩) rfl _ _ rfl rfl HS (by first | ((repeat (first | (with_reducible exact Take.head) | apply Take.tail)); done) | ((repeat (first | exact Take.head | apply Take.tail)); done)) sc_SSint (by rfl) ?_)
                | ((with_reducible (show wpList _ _ _ (Oper.mk none (Op.store _ (.tmp 101) _) _ _ _ _ :: _) _ _)); refine wpList_store_st (o := ⟨none, .store _ (.tmp 101) _, _, _, _, _⟩) rfl _ _ _ rfl rfl (v := .int .i64 _) rfl HS (by first | ((repeat (first | (with_reducible exact Take.head) | apply Take.tail)); done) | ((repeat (first | exact Take.head | apply Take.tail)); done)) sz_int (by simp only [Value.cells]; rfl) (by rfl) (by rfl) (by simp) ?_ rfl; clear HS; intro w12_11 hz12_11 HS; simp only [nicL, Value.cells, List.append_nil] at HS)
                | ((with_reducible (show wpList _ _ _ (Oper.mk none (Op.store _ (.tmp 101) _) _ _ _ _ :: _) _ _)); refine wpList_store_st (o := ⟨none, .store _ (.tmp 101) _, _, _, _, _⟩) rfl _ _ _ rfl rfl (v := _) rfl HS (by first | ((repeat (first | (with_reducible exact Take.head) | apply Take.tail)); done) | ((repeat (first | exact Take.head | apply Take.tail)); done)) sz_int (by simp only [Value.cells]; rfl) (by rfl) (by rfl) (by simp) ?_ rfl; clear HS; intro w12_11 hz12_11 HS; simp only [nicL, Value.cells, List.append_nil] at HS)
                | ((with_reducible (show wpList _ _ _ (Oper.mk none (Op.store _ (.tmp 104) _) _ _ _ _ :: _) _ _)); refine wpList_store_st (o := ⟨none, .store _ (.tmp 104) _, _, _, _, _⟩) rfl _ _ _ rfl rfl (v := .bool _) rfl HS (by first | ((repeat (first | (with_reducible exact Take.head) | apply Take.tail)); done) | ((repeat (first | exact Take.head | apply Take.tail)); done)) sz_bool (by simp only [Value.cells]; rfl) (by rfl) (by rfl) (by simp) ?_ rfl; clear HS; intro w13_3 hz13_3 HS; simp only [nicL, Value.cells, List.append_nil] at HS)
                | ((with_reducible (show wpList _ _ _ (Oper.mk none (Op.store _ (.tmp 104) _) _ _ _ _ :: _) _ _)); refine wpList_store_st (o := ⟨none, .store _ (.tmp 104) _, _, _, _, _⟩) rfl _ _ _ rfl rfl (v := _) rfl HS (by first | ((repeat (first | (with_reducible exact Take.head) | apply Take.tail)); done) | ((repeat (first | exact Take.head | apply Take.tail)); done)) sz_bool (by simp only [Value.cells]; rfl) (by rfl) (by rfl) (by simp) ?_ rfl; clear HS; intro w13_3 hz13_3 HS; simp only [nicL, Value.cells, List.append_nil] at HS))
          replace HS := HS.fill (xs := qs) (by first | ((repeat (first | (with_reducible exact Take.head) | apply Take.tail)); done) | ((repeat (first | exact Take.head | apply Take.tail)); done)) (show Take _ (ownA (y :: l) [_]) _ from (by first | ((repeat (first | (with_reducible exact Take.head) | apply Take.tail)); done) | ((repeat (first | exact Take.head | apply Take.tail)); done)))
          rw [set_same htl HQ.out] at HS
          rw [show ((tu : Int) + 1) % (qs.length : Int) = (((tu + 1) % qs.length : Nat) : Int) from by push_cast; rfl] at HS
          go_roundg f
          case measure => omega
          case rel => exact ⟨_, (tu + 1) % qs.length, true, HO.out.on, HR.out, (HS.arr (.cons (by first | ((repeat (first | (with_reducible exact Take.head) | apply Take.tail)); done) | ((repeat (first | exact Take.head | apply Take.tail)); done)) (.cons (by first | ((repeat (first | (with_reducible exact Take.head) | apply Take.tail)); done) | ((repeat (first | exact Take.head | apply Take.tail)); done)) (.cons (by first | ((repeat (first | (with_reducible exact Take.head) | apply Take.tail)); done) | ((repeat (first | exact Take.head | apply Take.tail)); done)) (by repeat (first | exact take_all _ | exact arr_drop _ _ | exact arr_drop2 _ _ _ | exact Arr.nil))))))⟩
      case true =>
        rw [srv_new htl hq htd, HDD.out] at hr
        have HD2 := hid (show (ds.set tu (d + qu))[tu]? = some (d + qu) by simp [htd])
        by_cases hs : y ≤ d + qu
        case pos =>
          rw [if_pos hs] at hr
          simp only [Option.some.injEq, Prod.mk.injEq] at hr
          obtain ⟨rfl, rfl, rfl, rfl⟩ := hr
          clear hq ok
          go_wp2_with (first
                | ((with_reducible (show wpList _ _ _ (Oper.mk (some 9) (Op.load _ _) _ _ _ _ :: _) _ _)); refine wpList_loadS_st (o := ⟨some 9, .load _ _, _, _, _, _⟩) rfl _ _ rfl rfl HS (by first | ((repeat (first | (with_reducible exact Take.head) | apply Take.tail)); done) | ((repeat (first | exact Take.head | apply Take.tail)); done)) sc_int (by rfl) ?_)
                | ((with_reducible (show wpList _ _ _ (Oper.mk (some 13) (Op.load _ _) _ _ _ _ :: _) _ _)); refine wpList_loadS_st (o := ⟨some 13, .load _ _, _, _, _, _⟩) rfl _ _ rfl rfl HS (by first | ((repeat (first | (with_reducible exact Take.head) | apply Take.tail)); done) | ((repeat (first | exact Take.head | apply Take.tail)); done)) sc_SSint (by rfl) ?_)
                | ((with_reducible (show wpList _ _ _ (Oper.mk (some 16) (Op.load _ _) _ _ _ _ :: _) _ _)); refine wpList_loadC_st (o := ⟨some 16, .load _ _, _, _, _, _⟩) rfl _ _ rfl rfl HS sc_Sint (by first | exact St.cellG (by first | ((repeat (first | (with_reducible exact Take.head) | apply Take.tail)); done) | ((repeat (first | exact Take.head | apply Take.tail)); done))) ?_)
                | ((with_reducible (show wpList _ _ _ (Oper.mk (some 20) (Op.load _ _) _ _ _ _ :: _) _ _)); refine wpList_loadS_st (o := ⟨some 20, .load _ _, _, _, _, _⟩) rfl _ _ rfl rfl HS (by first | ((repeat (first | (with_reducible exact Take.head) | apply Take.tail)); done) | ((repeat (first | exact Take.head | apply Take.tail)); done)) sc_bool (by rfl) ?_))
          refine wp_region_plan_st HS (.early 0 (.early 4 (.early 7 (.fork 1 1 (.early 2 (.early 3 (.early 5 (.early 6 (.forced 8 1 (.forced 9 1 (.forced 10 1 (.forced 11 2 (.forced 12 2 (.forced 13 2 .done)))))))))) 8 1 (.early 9 (.early 10 (.forced 1 1 (.forced 2 1 (.forced 3 1 (.forced 5 1 (.forced 6 1 (.forced 11 2 (.forced 12 2 (.forced 13 2 .done)))))))))))))) (by kernel_rfl) (by as_aux_lemma => kernel_rfl) ?_
          intro hne
          replace HS := HS.drew
          try go_simp
          first | (refine wpPlan_skipE rfl rfl ?_; (try go_simp)) | (refine wpPlan_early rfl rfl ?_; intro K hK; (first | go_big_quiet_op); (first | go_big_quiet_on | (refine ⟨_, fun _ => rfl, ?_⟩; go_big_quiet_on)))
          first | (refine wpPlan_skipE rfl rfl ?_; (try go_simp)) | (refine wpPlan_early rfl rfl ?_; intro K hK; (first | go_big_quiet_op); (first | go_big_quiet_on | (refine ⟨_, fun _ => rfl, ?_⟩; go_big_quiet_on)))
          first | (refine wpPlan_skipE rfl rfl ?_; (try go_simp)) | (refine wpPlan_early rfl rfl ?_; intro K hK; (first | go_big_quiet_op); (first | go_big_quiet_on | (refine ⟨_, fun _ => rfl, ?_⟩; go_big_quiet_on)))
          refine wpPlan_fork ?_ ?_
          focus
            first | (refine wpOne_skip rfl rfl ?_; (try go_simp)) | (refine wpOne_1 rfl rfl ?_; intro K hK; go_simp; refine hK _ _ ?_ ?_; (focus (first | (with_reducible exact StW.mk' HS) | exact StW.mk' (HS.arr (by repeat (first | exact Arr.nil | (with_reducible exact take_all _) | (refine Arr.cons (by first | ((repeat (first | (with_reducible exact Take.head) | apply Take.tail)); done) | ((repeat (first | exact Take.head | apply Take.tail)); done)) ?_)))))); clear hK K)
            first | (refine wpPlan_skipE rfl rfl ?_; (try go_simp)) | (refine wpPlan_early rfl rfl ?_; intro K hK; (first | go_big_quiet_op); (first | go_big_quiet_on | (refine ⟨_, fun _ => rfl, ?_⟩; go_big_quiet_on)))
            first | (refine wpPlan_skipE rfl rfl ?_; (try go_simp)) | (refine wpPlan_early rfl rfl ?_; intro K hK; (first | ((refine quiet_loadS_st  _ _ rfl rfl (by first | ((repeat (first | (with_reducible exact Take.head) | apply Take.tail)); done) | ((repeat (first | exact Take.head | apply Take.tail)); done)) sc_Sint (by rfl) ?_); (try go_simp)) | go_big_quiet_op); (first | go_big_quiet_on | (refine ⟨_, fun _ => rfl, ?_⟩; go_big_quiet_on)))
            first | (refine wpPlan_skipE rfl rfl ?_; (try go_simp)) | (refine wpPlan_early rfl rfl ?_; intro K hK; (first | go_big_quiet_op); (first | go_big_quiet_on | (refine ⟨_, fun _ => rfl, ?_⟩; go_big_quiet_on)))
            first | (refine wpPlan_skipE rfl rfl ?_; (try go_simp)) | (refine wpPlan_early rfl rfl ?_; intro K hK; (first | ((refine quiet_loadC_st  _ _ rfl rfl sc_int (by first | exact St.cellI (by first | ((repeat (first | (with_reducible exact Take.head) | apply Take.tail)); done) | ((repeat (first | exact Take.head | apply Take.tail)); done)) HD.out | exact St.cellI (by first | ((repeat (first | (with_reducible exact Take.head) | apply Take.tail)); done) | ((repeat (first | exact Take.head | apply Take.tail)); done)) HD2.out) ?_); (try go_simp)) | go_big_quiet_op); (first | go_big_quiet_on | (refine ⟨_, fun _ => rfl, ?_⟩; go_big_quiet_on)))
            refine wpPlan_forced ?_
            first | (refine wpOne_skip rfl rfl ?_; (try go_simp)) | (refine wpOne_1 rfl rfl ?_; intro K hK; go_simp; refine hK _ _ ?_ ?_; (focus (first | (with_reducible exact StW.mk' HS) | exact StW.mk' (HS.arr (by repeat (first | exact Arr.nil | (with_reducible exact take_all _) | (refine Arr.cons (by first | ((repeat (first | (with_reducible exact Take.head) | apply Take.tail)); done) | ((repeat (first | exact Take.head | apply Take.tail)); done)) ?_)))))); clear hK K)
            refine wpPlan_forced ?_
            first | (refine wpOne_skip rfl rfl ?_; (try go_simp)) | (refine wpOne_1 rfl rfl ?_; intro K hK; go_simp; refine hK _ _ ?_ ?_; (focus (first | (with_reducible exact StW.mk' HS) | exact StW.mk' (HS.arr (by repeat (first | exact Arr.nil | (with_reducible exact take_all _) | (refine Arr.cons (by first | ((repeat (first | (with_reducible exact Take.head) | apply Take.tail)); done) | ((repeat (first | exact Take.head | apply Take.tail)); done)) ?_)))))); clear hK K)
            refine wpPlan_forced ?_
            first | (refine wpOne_skip rfl rfl ?_; (try go_simp)) | (refine wpOne_1 rfl rfl ?_; intro K hK; (first | (refine wp_loadS_st  _ _ rfl rfl HS (by first | ((repeat (first | (with_reducible exact Take.head) | apply Take.tail)); done) | ((repeat (first | exact Take.head | apply Take.tail)); done)) sc_int (by rfl) ?_)); (try go_simp); refine hK _ _ ?_ ?_; (focus (first | (with_reducible exact StW.mk' HS) | exact StW.mk' (HS.arr (by repeat (first | exact Arr.nil | (with_reducible exact take_all _) | (refine Arr.cons (by first | ((repeat (first | (with_reducible exact Take.head) | apply Take.tail)); done) | ((repeat (first | exact Take.head | apply Take.tail)); done)) ?_)))))); clear hK K)
            refine wpPlan_forced ?_
            first | (refine wpOne_skip rfl rfl ?_; (try go_simp)) | (refine wpOne_2 rfl rfl ?_; intro K hK; go_simp; refine hK _ _ ?_; clear hK K)
            refine wpPlan_forced ?_
            first | (refine wpOne_skip rfl rfl ?_; (try go_simp)) | (refine wpOne_2 rfl rfl ?_; intro K hK; go_simp; refine hK _ _ ?_; clear hK K)
            refine wpPlan_forced ?_
            first | (refine wpOne_skip rfl rfl ?_; (try go_simp)) | (refine wpOne_2 rfl rfl ?_; intro K hK; (first | (refine wp_storeI_st  (v := d + qu) _ _ _ rfl rfl rfl HS (by first | ((repeat (first | (with_reducible exact Take.head) | apply Take.tail)); done) | ((repeat (first | exact Take.head | apply Take.tail)); done)) sz_int (by first | exact htd | (rw [List.length_set]; exact htd)) (by unfold i64ok; omega) ?_ rfl; clear HS; intro w4_13 hz4_13 HS)); (try go_simp); refine hK _ _ ?_; clear hK K)
            refine wpPlan_done ?_
          rotate_left 1
          focus
            first | (refine wpOne_skip rfl rfl ?_; (try go_simp)) | (refine wpOne_1 rfl rfl ?_; intro K hK; go_simp; refine hK _ _ ?_ ?_; (focus (first | (with_reducible exact StW.mk' HS) | exact StW.mk' (HS.arr (by repeat (first | exact Arr.nil | (with_reducible exact take_all _) | (refine Arr.cons (by first | ((repeat (first | (with_reducible exact Take.head) | apply Take.tail)); done) | ((repeat (first | exact Take.head | apply Take.tail)); done)) ?_)))))); clear hK K)
            first | (refine wpPlan_skipE rfl rfl ?_; (try go_simp)) | (refine wpPlan_early rfl rfl ?_; intro K hK; (first | go_big_quiet_op); (first | go_big_quiet_on | (refine ⟨_, fun _ => rfl, ?_⟩; go_big_quiet_on)))
            first | (refine wpPlan_skipE rfl rfl ?_; (try go_simp)) | (refine wpPlan_early rfl rfl ?_; intro K hK; (first | ((refine quiet_loadS_st  _ _ rfl rfl (by first | ((repeat (first | (with_reducible exact Take.head) | apply Take.tail)); done) | ((repeat (first | exact Take.head | apply Take.tail)); done)) sc_int (by rfl) ?_); (try go_simp)) | go_big_quiet_op); (first | go_big_quiet_on | (refine ⟨_, fun _ => rfl, ?_⟩; go_big_quiet_on)))
            refine wpPlan_forced ?_
            first | (refine wpOne_skip rfl rfl ?_; (try go_simp)) | (refine wpOne_1 rfl rfl ?_; intro K hK; go_simp; refine hK _ _ ?_ ?_; (focus (first | (with_reducible exact StW.mk' HS) | exact StW.mk' (HS.arr (by repeat (first | exact Arr.nil | (with_reducible exact take_all _) | (refine Arr.cons (by first | ((repeat (first | (with_reducible exact Take.head) | apply Take.tail)); done) | ((repeat (first | exact Take.head | apply Take.tail)); done)) ?_)))))); clear hK K)
            refine wpPlan_forced ?_
            first | (refine wpOne_skip rfl rfl ?_; (try go_simp)) | (refine wpOne_1 rfl rfl ?_; intro K hK; go_simp; refine hK _ _ ?_ ?_; (focus (first | (with_reducible exact StW.mk' HS) | exact StW.mk' (HS.arr (by repeat (first | exact Arr.nil | (with_reducible exact take_all _) | (refine Arr.cons (by first | ((repeat (first | (with_reducible exact Take.head) | apply Take.tail)); done) | ((repeat (first | exact Take.head | apply Take.tail)); done)) ?_)))))); clear hK K)
            refine wpPlan_forced ?_
            first | (refine wpOne_skip rfl rfl ?_; (try go_simp)) | (refine wpOne_1 rfl rfl ?_; intro K hK; (first | (refine wp_loadS_st  _ _ rfl rfl HS (by first | ((repeat (first | (with_reducible exact Take.head) | apply Take.tail)); done) | ((repeat (first | exact Take.head | apply Take.tail)); done)) sc_Sint (by rfl) ?_)); (try go_simp); refine hK _ _ ?_ ?_; (focus (first | (with_reducible exact StW.mk' HS) | exact StW.mk' (HS.arr (by repeat (first | exact Arr.nil | (with_reducible exact take_all _) | (refine Arr.cons (by first | ((repeat (first | (with_reducible exact Take.head) | apply Take.tail)); done) | ((repeat (first | exact Take.head | apply Take.tail)); done)) ?_)))))); clear hK K)
            refine wpPlan_forced ?_
            first | (refine wpOne_skip rfl rfl ?_; (try go_simp)) | (refine wpOne_1 rfl rfl ?_; intro K hK; go_simp; refine hK _ _ ?_ ?_; (focus (first | (with_reducible exact StW.mk' HS) | exact StW.mk' (HS.arr (by repeat (first | exact Arr.nil | (with_reducible exact take_all _) | (refine Arr.cons (by first | ((repeat (first | (with_reducible exact Take.head) | apply Take.tail)); done) | ((repeat (first | exact Take.head | apply Take.tail)); done)) ?_)))))); clear hK K)
            refine wpPlan_forced ?_
            first | (refine wpOne_skip rfl rfl ?_; (try go_simp)) | (refine wpOne_1 rfl rfl ?_; intro K hK; (first | (refine wp_loadC_st  _ _ rfl rfl HS sc_int (by first | exact St.cellI (by first | ((repeat (first | (with_reducible exact Take.head) | apply Take.tail)); done) | ((repeat (first | exact Take.head | apply Take.tail)); done)) HD.out | exact St.cellI (by first | ((repeat (first | (with_reducible exact Take.head) | apply Take.tail)); done) | ((repeat (first | exact Take.head | apply Take.tail)); done)) HD2.out) ?_)); (try go_simp); refine hK _ _ ?_ ?_; (focus (first | (with_reducible exact StW.mk' HS) | exact StW.mk' (HS.arr (by repeat (first | exact Arr.nil | (with_reducible exact take_all _) | (refine Arr.cons (by first | ((repeat (first | (with_reducible exact Take.head) | apply Take.tail)); done) | ((repeat (first | exact Take.head | apply Take.tail)); done)) ?_)))))); clear hK K)
            refine wpPlan_forced ?_
            first | (refine wpOne_skip rfl rfl ?_; (try go_simp)) | (refine wpOne_2 rfl rfl ?_; intro K hK; go_simp; refine hK _ _ ?_; clear hK K)
            refine wpPlan_forced ?_
            first | (refine wpOne_skip rfl rfl ?_; (try go_simp)) | (refine wpOne_2 rfl rfl ?_; intro K hK; go_simp; refine hK _ _ ?_; clear hK K)
            refine wpPlan_forced ?_
            first | (refine wpOne_skip rfl rfl ?_; (try go_simp)) | (refine wpOne_2 rfl rfl ?_; intro K hK; (first | (refine wp_storeI_st  (v := d + qu) _ _ _ rfl rfl rfl HS (by first | ((repeat (first | (with_reducible exact Take.head) | apply Take.tail)); done) | ((repeat (first | exact Take.head | apply Take.tail)); done)) sz_int (by first | exact htd | (rw [List.length_set]; exact htd)) (by unfold i64ok; omega) ?_ rfl; clear HS; intro w4_13 hz4_13 HS)); (try go_simp); refine hK _ _ ?_; clear hK K)
            refine wpPlan_done ?_
          all_goals
            go_wp2_with (first
                  | ((with_reducible (show wpList _ _ _ (Oper.mk none (Op.store _ (.tmp 41) _) _ _ _ _ :: _) _ _)); refine wpList_store_st (o := ⟨none, .store _ (.tmp 41) _, _, _, _, _⟩) rfl _ _ _ rfl rfl (v := .bool _) rfl HS (by first | ((repeat (first | (with_reducible exact Take.head) | apply Take.tail)); done) | ((repeat (first | exact Take.head | apply Take.tail)); done)) sz_bool (by simp only [Value.cells]; rfl) (by rfl) (by rfl) (by simp) ?_ rfl; clear HS; intro w5_3 hz5_3 HS; simp only [nicL, Value.cells, List.append_nil] at HS)
                  | ((with_reducible (show wpList _ _ _ (Oper.mk none (Op.store _ (.tmp 41) _) _ _ _ _ :: _) _ _)); refine wpList_store_st (o := ⟨none, .store _ (.tmp 41) _, _, _, _, _⟩) rfl _ _ _ rfl rfl (v := _) rfl HS (by first | ((repeat (first | (with_reducible exact Take.head) | apply Take.tail)); done) | ((repeat (first | exact Take.head | apply Take.tail)); done)) sz_bool (by simp only [Value.cells]; rfl) (by rfl) (by rfl) (by simp) ?_ rfl; clear HS; intro w5_3 hz5_3 HS; simp only [nicL, Value.cells, List.append_nil] at HS))
            refine wp_region_plan_st HS (.forced 0 1 (.forced 1 1 (.forced 2 1 (.forced 3 1 (.early 4 (.early 5 (.early 6 (.early 7 (.early 11 (.forced 8 1 (.forced 9 1 (.forced 10 1 (.forced 12 1 (.forced 13 1 (.forced 14 2 (.forced 15 2 .done)))))))))))))))) (by kernel_rfl) (by as_aux_lemma => kernel_rfl) ?_
            intro hne
            replace HS := HS.drew
            try go_simp
            refine wpPlan_forced ?_
            first | (refine wpOne_skip rfl rfl ?_; (try go_simp)) | (refine wpOne_1 rfl rfl ?_; intro K hK; go_simp; refine hK _ _ ?_ ?_; (focus (first | (with_reducible exact StW.mk' HS) | exact StW.mk' (HS.arr (by repeat (first | exact Arr.nil | (with_reducible exact take_all _) | (refine Arr.cons (by first | ((repeat (first | (with_reducible exact Take.head) | apply Take.tail)); done) | ((repeat (first | exact Take.head | apply Take.tail)); done)) ?_)))))); clear hK K)
            refine wpPlan_forced ?_
            first | (refine wpOne_skip rfl rfl ?_; (try go_simp)) | (refine wpOne_1 rfl rfl ?_; intro K hK; go_simp; refine hK _ _ ?_ ?_; (focus (first | (with_reducible exact StW.mk' HS) | exact StW.mk' (HS.arr (by repeat (first | exact Arr.nil | (with_reducible exact take_all _) | (refine Arr.cons (by first | ((repeat (first | (with_reducible exact Take.head) | apply Take.tail)); done) | ((repeat (first | exact Take.head | apply Take.tail)); done)) ?_)))))); clear hK K)
            refine wpPlan_forced ?_
            first | (refine wpOne_skip rfl rfl ?_; (try go_simp)) | (refine wpOne_1 rfl rfl ?_; intro K hK; go_simp; refine hK _ _ ?_ ?_; (focus (first | (with_reducible exact StW.mk' HS) | exact StW.mk' (HS.arr (by repeat (first | exact Arr.nil | (with_reducible exact take_all _) | (refine Arr.cons (by first | ((repeat (first | (with_reducible exact Take.head) | apply Take.tail)); done) | ((repeat (first | exact Take.head | apply Take.tail)); done)) ?_)))))); clear hK K)
            refine wpPlan_forced ?_
            first | (refine wpOne_skip rfl rfl ?_; (try go_simp)) | (refine wpOne_1 rfl rfl ?_; intro K hK; go_simp; refine hK _ _ ?_ ?_; (focus (first | (with_reducible exact StW.mk' HS) | exact StW.mk' (HS.arr (by repeat (first | exact Arr.nil | (with_reducible exact take_all _) | (refine Arr.cons (by first | ((repeat (first | (with_reducible exact Take.head) | apply Take.tail)); done) | ((repeat (first | exact Take.head | apply Take.tail)); done)) ?_)))))); clear hK K)
            first | (refine wpPlan_skipE rfl rfl ?_; (try go_simp)) | (refine wpPlan_early rfl rfl ?_; intro K hK; (first | go_big_quiet_op); (first | go_big_quiet_on | (refine ⟨_, fun _ => rfl, ?_⟩; go_big_quiet_on)))
            first | (refine wpPlan_skipE rfl rfl ?_; (try go_simp)) | (refine wpPlan_early rfl rfl ?_; intro K hK; (first | go_big_quiet_op); (first | go_big_quiet_on | (refine ⟨_, fun _ => rfl, ?_⟩; go_big_quiet_on)))
            first | (refine wpPlan_skipE rfl rfl ?_; (try go_simp)) | (refine wpPlan_early rfl rfl ?_; intro K hK; (first | ((refine quiet_loadC_st  _ _ rfl rfl sc_int (by first | exact St.cellI0 (by first | ((repeat (first | (with_reducible exact Take.head) | apply Take.tail)); done) | ((repeat (first | exact Take.head | apply Take.tail)); done)) HQ0.out | exact St.cellI (by first | ((repeat (first | (with_reducible exact Take.head) | apply Take.tail)); done) | ((repeat (first | exact Take.head | apply Take.tail)); done)) HQ0.out) ?_); (try go_simp)) | go_big_quiet_op); (first | go_big_quiet_on | (refine ⟨_, fun _ => rfl, ?_⟩; go_big_quiet_on)))
            first | (refine wpPlan_skipE rfl rfl ?_; (try go_simp)) | (refine wpPlan_early rfl rfl ?_; intro K hK; (first | go_big_quiet_op); (first | go_big_quiet_on | (refine ⟨_, fun _ => rfl, ?_⟩; go_big_quiet_on)))
            first | (refine wpPlan_skipE rfl rfl ?_; (try go_simp)) | (refine wpPlan_early rfl rfl ?_; intro K hK; (first | go_big_quiet_op); (first | go_big_quiet_on | (refine ⟨_, fun _ => rfl, ?_⟩; go_big_quiet_on)))
            refine wpPlan_forced ?_
            first | (refine wpOne_skip rfl rfl ?_; (try go_simp)) | (refine wpOne_1 rfl rfl ?_; intro K hK; go_simp; refine hK _ _ ?_ ?_; (focus (first | (with_reducible exact StW.mk' HS) | exact StW.mk' (HS.arr (by repeat (first | exact Arr.nil | (with_reducible exact take_all _) | (refine Arr.cons (by first | ((repeat (first | (with_reducible exact Take.head) | apply Take.tail)); done) | ((repeat (first | exact Take.head | apply Take.tail)); done)) ?_)))))); clear hK K)
            refine wpPlan_forced ?_
            first | (refine wpOne_skip rfl rfl ?_; (try go_simp)) | (refine wpOne_1 rfl rfl ?_; intro K hK; go_simp; refine hK _ _ ?_ ?_; (focus (first | (with_reducible exact StW.mk' HS) | exact StW.mk' (HS.arr (by repeat (first | exact Arr.nil | (with_reducible exact take_all _) | (refine Arr.cons (by first | ((repeat (first | (with_reducible exact Take.head) | apply Take.tail)); done) | ((repeat (first | exact Take.head | apply Take.tail)); done)) ?_)))))); clear hK K)
            refine wpPlan_forced ?_
            first | (refine wpOne_skip rfl rfl ?_; (try go_simp)) | (refine wpOne_1 rfl rfl ?_; intro K hK; (first | (refine wp_loadS_st  _ _ rfl rfl HS (by first | ((repeat (first | (with_reducible exact Take.head) | apply Take.tail)); done) | ((repeat (first | exact Take.head | apply Take.tail)); done)) sc_Sint (by rfl) ?_)); (try go_simp); refine hK _ _ ?_ ?_; (focus (first | (with_reducible exact StW.mk' HS) | exact StW.mk' (HS.arr (by repeat (first | exact Arr.nil | (with_reducible exact take_all _) | (refine Arr.cons (by first | ((repeat (first | (with_reducible exact Take.head) | apply Take.tail)); done) | ((repeat (first | exact Take.head | apply Take.tail)); done)) ?_)))))); clear hK K)
            refine wpPlan_forced ?_
            first | (refine wpOne_skip rfl rfl ?_; (try go_simp)) | (refine wpOne_1 rfl rfl ?_; intro K hK; go_simp; refine hK _ _ ?_ ?_; (focus (first | (with_reducible exact StW.mk' HS) | exact StW.mk' (HS.arr (by repeat (first | exact Arr.nil | (with_reducible exact take_all _) | (refine Arr.cons (by first | ((repeat (first | (with_reducible exact Take.head) | apply Take.tail)); done) | ((repeat (first | exact Take.head | apply Take.tail)); done)) ?_)))))); clear hK K)
            refine wpPlan_forced ?_
            first | (refine wpOne_skip rfl rfl ?_; (try go_simp)) | (refine wpOne_1 rfl rfl ?_; intro K hK; (first | (refine wp_loadC_st  _ _ rfl rfl HS sc_int (by first | exact St.cellI (by first | ((repeat (first | (with_reducible exact Take.head) | apply Take.tail)); done) | ((repeat (first | exact Take.head | apply Take.tail)); done)) HD.out | exact St.cellI (by first | ((repeat (first | (with_reducible exact Take.head) | apply Take.tail)); done) | ((repeat (first | exact Take.head | apply Take.tail)); done)) HD2.out) ?_)); (try go_simp); refine hK _ _ ?_ ?_; (focus (first | (with_reducible exact StW.mk' HS) | exact StW.mk' (HS.arr (by repeat (first | exact Arr.nil | (with_reducible exact take_all _) | (refine Arr.cons (by first | ((repeat (first | (with_reducible exact Take.head) | apply Take.tail)); done) | ((repeat (first | exact Take.head | apply Take.tail)); done)) ?_)))))); clear hK K)
            refine wpPlan_forced ?_
            first | (refine wpOne_skip rfl rfl ?_; (try go_simp)) | (refine wpOne_2 rfl rfl ?_; intro K hK; go_simp; refine hK _ _ ?_; clear hK K)
            refine wpPlan_forced ?_
            first | (refine wpOne_skip rfl rfl ?_; (try go_simp)) | (refine wpOne_2 rfl rfl ?_; intro K hK; go_simp; refine hK _ _ ?_; clear hK K)
            refine wpPlan_done ?_
            go_wp2
            refine wp_region_plan_st HS (.early 0 (.early 4 (.early 5 (.early 6 (.forced 1 1 (.forced 2 1 (.forced 3 1 (.forced 7 2 (.forced 8 2 .done))))))))) (by kernel_rfl) (by as_aux_lemma => kernel_rfl) ?_
            intro hne
            replace HS := HS.drew
            try go_simp
            first | (refine wpPlan_skipE rfl rfl ?_; (try go_simp)) | (refine wpPlan_early rfl rfl ?_; intro K hK; (first | go_big_quiet_op); (first | go_big_quiet_on | (refine ⟨_, fun _ => rfl, ?_⟩; go_big_quiet_on)))
            first | (refine wpPlan_skipE rfl rfl ?_; (try go_simp)) | (refine wpPlan_early rfl rfl ?_; intro K hK; (first | go_big_quiet_op); (first | go_big_quiet_on | (refine ⟨_, fun _ => rfl, ?_⟩; go_big_quiet_on)))
            first | (refine wpPlan_skipE rfl rfl ?_; (try go_simp)) | (refine wpPlan_early rfl rfl ?_; intro K hK; (first | go_big_quiet_op); (first | go_big_quiet_on | (refine ⟨_, fun _ => rfl, ?_⟩; go_big_quiet_on)))
            first | (refine wpPlan_skipE rfl rfl ?_; (try go_simp)) | (refine wpPlan_early rfl rfl ?_; intro K hK; (first | ((refine quiet_pure (pure_cutLo (l := 1) _ _ _ rfl _ Try.underlying25 in_int rfl rfl (by omega)) ?_); (try go_simp)) | go_big_quiet_op); (first | go_big_quiet_on | (refine ⟨_, fun _ => rfl, ?_⟩; go_big_quiet_on)))
            refine wpPlan_forced ?_
            first | (refine wpOne_skip rfl rfl ?_; (try go_simp)) | (refine wpOne_1 rfl rfl ?_; intro K hK; go_simp; refine hK _ _ ?_ ?_; (focus (first | (with_reducible exact StW.mk' HS) | exact StW.mk' (HS.arr (by repeat (first | exact Arr.nil | (with_reducible exact take_all _) | (refine Arr.cons (by first | ((repeat (first | (with_reducible exact Take.head) | apply Take.tail)); done) | ((repeat (first | exact Take.head | apply Take.tail)); done)) ?_)))))); clear hK K)
            refine wpPlan_forced ?_
            first | (refine wpOne_skip rfl rfl ?_; (try go_simp)) | (refine wpOne_1 rfl rfl ?_; intro K hK; go_simp; refine hK _ _ ?_ ?_; (focus (first | (with_reducible exact StW.mk' HS) | exact StW.mk' (HS.arr (by repeat (first | exact Arr.nil | (with_reducible exact take_all _) | (refine Arr.cons (by first | ((repeat (first | (with_reducible exact Take.head) | apply Take.tail)); done) | ((repeat (first | exact Take.head | apply Take.tail)); done)) ?_)))))); clear hK K)
            refine wpPlan_forced ?_
            first | (refine wpOne_skip rfl rfl ?_; (try go_simp)) | (refine wpOne_1 rfl rfl ?_; intro K hK; (first | (refine wp_loadS_st  _ _ rfl rfl HS (by first | ((repeat (first | (with_reducible exact Take.head) | apply Take.tail)); done) | ((repeat (first | exact Take.head | apply Take.tail)); done)) sc_SSint (by rfl) ?_)); (try go_simp); refine hK _ _ ?_ ?_; (focus (first | (with_reducible exact StW.mk' HS) | exact StW.mk' (HS.arr (by repeat (first | exact Arr.nil | (with_reducible exact take_all _) | (refine Arr.cons (by first | ((repeat (first | (with_reducible exact Take.head) | apply Take.tail)); done) | ((repeat (first | exact Take.head | apply Take.tail)); done)) ?_)))))); clear hK K)
            refine wpPlan_forced ?_
            first | (refine wpOne_skip rfl rfl ?_; (try go_simp)) | (refine wpOne_2 rfl rfl ?_; intro K hK; go_simp; refine hK _ _ ?_; clear hK K)
            refine wpPlan_forced ?_
            first | (refine wpOne_skip rfl rfl ?_; (try go_simp)) | (refine wpOne_2 rfl rfl ?_; intro K hK; (first | (refine wp_storeG_st  _ _ _ rfl rfl rfl HS (by first | ((repeat (first | (with_reducible exact Take.head) | apply Take.tail)); done) | ((repeat (first | exact Take.head | apply Take.tail)); done)) sz_Sint rfl rfl ?_ rfl; clear HS; intro w7_8 hz7_8 HS)); (try go_simp); refine hK _ _ ?_; clear hK K)
            refine wpPlan_done ?_
            go_wp2
            refine wp_region_plan_st HS (.early 0 (.early 4 (.early 7 (.early 8 (.early 9 (.forced 1 1 (.forced 2 1 (.forced 3 1 (.forced 5 1 (.forced 6 1 (.forced 10 2 (.forced 11 2 (.forced 12 2 .done))))))))))))) (by kernel_rfl) (by as_aux_lemma => kernel_rfl) ?_
            intro hne
            replace HS := HS.drew
            try go_simp
            first | (refine wpPlan_skipE rfl rfl ?_; (try go_simp)) | (refine wpPlan_early rfl rfl ?_; intro K hK; (first | go_big_quiet_op); (first | go_big_quiet_on | (refine ⟨_, fun _ => rfl, ?_⟩; go_big_quiet_on)))
            first | (refine wpPlan_skipE rfl rfl ?_; (try go_simp)) | (refine wpPlan_early rfl rfl ?_; intro K hK; (first | go_big_quiet_op); (first | go_big_quiet_on | (refine ⟨_, fun _ => rfl, ?_⟩; go_big_quiet_on)))
            first | (refine wpPlan_skipE rfl rfl ?_; (try go_simp)) | (refine wpPlan_early rfl rfl ?_; intro K hK; (first | go_big_quiet_op); (first | go_big_quiet_on | (refine ⟨_, fun _ => rfl, ?_⟩; go_big_quiet_on)))
            first | (refine wpPlan_skipE rfl rfl ?_; (try go_simp)) | (refine wpPlan_early rfl rfl ?_; intro K hK; (first | go_big_quiet_op); (first | go_big_quiet_on | (refine ⟨_, fun _ => rfl, ?_⟩; go_big_quiet_on)))
            first | (refine wpPlan_skipE rfl rfl ?_; (try go_simp)) | (refine wpPlan_early rfl rfl ?_; intro K hK; (first | ((refine quiet_loadC_st  _ _ rfl rfl sc_int (by first | exact St.cellI0 (by first | ((repeat (first | (with_reducible exact Take.head) | apply Take.tail)); done) | ((repeat (first | exact Take.head | apply Take.tail)); done)) HQ0.out | exact St.cellI (by first | ((repeat (first | (with_reducible exact Take.head) | apply Take.tail)); done) | ((repeat (first | exact Take.head | apply Take.tail)); done)) HQ0.out) ?_); (try go_simp)) | go_big_quiet_op); (first | go_big_quiet_on | (refine ⟨_, fun _ => rfl, ?_⟩; go_big_quiet_on)))
            refine wpPlan_forced ?_
            first | (refine wpOne_skip rfl rfl ?_; (try go_simp)) | (refine wpOne_1 rfl rfl ?_; intro K hK; go_simp; refine hK _ _ ?_ ?_; (focus (first | (with_reducible exact StW.mk' HS) | exact StW.mk' (HS.arr (by repeat (first | exact Arr.nil | (with_reducible exact take_all _) | (refine Arr.cons (by first | ((repeat (first | (with_reducible exact Take.head) | apply Take.tail)); done) | ((repeat (first | exact Take.head | apply Take.tail)); done)) ?_)))))); clear hK K)
            refine wpPlan_forced ?_
            first | (refine wpOne_skip rfl rfl ?_; (try go_simp)) | (refine wpOne_1 rfl rfl ?_; intro K hK; go_simp; refine hK _ _ ?_ ?_; (focus (first | (with_reducible exact StW.mk' HS) | exact StW.mk' (HS.arr (by repeat (first | exact Arr.nil | (with_reducible exact take_all _) | (refine Arr.cons (by first | ((repeat (first | (with_reducible exact Take.head) | apply Take.tail)); done) | ((repeat (first | exact Take.head | apply Take.tail)); done)) ?_)))))); clear hK K)
            refine wpPlan_forced ?_
            first | (refine wpOne_skip rfl rfl ?_; (try go_simp)) | (refine wpOne_1 rfl rfl ?_; intro K hK; (first | (refine wp_loadS_st  _ _ rfl rfl HS (by first | ((repeat (first | (with_reducible exact Take.head) | apply Take.tail)); done) | ((repeat (first | exact Take.head | apply Take.tail)); done)) sc_Sint (by rfl) ?_)); (try go_simp); refine hK _ _ ?_ ?_; (focus (first | (with_reducible exact StW.mk' HS) | exact StW.mk' (HS.arr (by repeat (first | exact Arr.nil | (with_reducible exact take_all _) | (refine Arr.cons (by first | ((repeat (first | (with_reducible exact Take.head) | apply Take.tail)); done) | ((repeat (first | exact Take.head | apply Take.tail)); done)) ?_)))))); clear hK K)
            refine wpPlan_forced ?_
            first | (refine wpOne_skip rfl rfl ?_; (try go_simp)) | (refine wpOne_1 rfl rfl ?_; intro K hK; go_simp; refine hK _ _ ?_ ?_; (focus (first | (with_reducible exact StW.mk' HS) | exact StW.mk' (HS.arr (by repeat (first | exact Arr.nil | (with_reducible exact take_all _) | (refine Arr.cons (by first | ((repeat (first | (with_reducible exact Take.head) | apply Take.tail)); done) | ((repeat (first | exact Take.head | apply Take.tail)); done)) ?_)))))); clear hK K)
            refine wpPlan_forced ?_
            first | (refine wpOne_skip rfl rfl ?_; (try go_simp)) | (refine wpOne_1 rfl rfl ?_; intro K hK; (first | (refine wp_loadC_st  _ _ rfl rfl HS sc_int (by first | exact St.cellI (by first | ((repeat (first | (with_reducible exact Take.head) | apply Take.tail)); done) | ((repeat (first | exact Take.head | apply Take.tail)); done)) HD.out | exact St.cellI (by first | ((repeat (first | (with_reducible exact Take.head) | apply Take.tail)); done) | ((repeat (first | exact Take.head | apply Take.tail)); done)) HD2.out) ?_)); (try go_simp); refine hK _ _ ?_ ?_; (focus (first | (with_reducible exact StW.mk' HS) | exact StW.mk' (HS.arr (by repeat (first | exact Arr.nil | (with_reducible exact take_all _) | (refine Arr.cons (by first | ((repeat (first | (with_reducible exact Take.head) | apply Take.tail)); done) | ((repeat (first | exact Take.head | apply Take.tail)); done)) ?_)))))); clear hK K)
            refine wpPlan_forced ?_
            first | (refine wpOne_skip rfl rfl ?_; (try go_simp)) | (refine wpOne_2 rfl rfl ?_; intro K hK; go_simp; refine hK _ _ ?_; clear hK K)
            refine wpPlan_forced ?_
            first | (refine wpOne_skip rfl rfl ?_; (try go_simp)) | (refine wpOne_2 rfl rfl ?_; intro K hK; go_simp; refine hK _ _ ?_; clear hK K)
            refine wpPlan_forced ?_
            first | (refine wpOne_skip rfl rfl ?_; (try go_simp)) | (refine wpOne_2 rfl rfl ?_; intro K hK; (first | (refine wp_storeI_st  (v := d + qu - y) _ _ _ rfl rfl rfl HS (by first | ((repeat (first | (with_reducible exact Take.head) | apply Take.tail)); done) | ((repeat (first | exact Take.head | apply Take.tail)); done)) sz_int (by first | exact htd | (rw [List.length_set]; exact htd)) (by unfold i64ok; omega) ?_ rfl; clear HS; intro w8_12 hz8_12 HS)); (try go_simp); refine hK _ _ ?_; clear hK K)
            refine wpPlan_done ?_
            go_wp2
            refine wp_region_plan_st HS (.early 0 (.early 1 (.early 2 (.early 3 (.forced 4 1 (.forced 5 2 .done)))))) (by kernel_rfl) (by as_aux_lemma => kernel_rfl) ?_
            intro hne
            replace HS := HS.drew
            try go_simp
            first | (refine wpPlan_skipE rfl rfl ?_; (try go_simp)) | (refine wpPlan_early rfl rfl ?_; intro K hK; (first | go_big_quiet_op); (first | go_big_quiet_on | (refine ⟨_, fun _ => rfl, ?_⟩; go_big_quiet_on)))
            first | (refine wpPlan_skipE rfl rfl ?_; (try go_simp)) | (refine wpPlan_early rfl rfl ?_; intro K hK; (first | go_big_quiet_op); (first | go_big_quiet_on | (refine ⟨_, fun _ => rfl, ?_⟩; go_big_quiet_on)))
            first | (refine wpPlan_skipE rfl rfl ?_; (try go_simp)) | (refine wpPlan_early rfl rfl ?_; intro K hK; (first | go_big_quiet_op); (first | go_big_quiet_on | (refine ⟨_, fun _ => rfl, ?_⟩; go_big_quiet_on)))
            first | (refine wpPlan_skipE rfl rfl ?_; (try go_simp)) | (refine wpPlan_early rfl rfl ?_; intro K hK; (first | ((refine quiet_loadC_st  _ _ rfl rfl sc_int (by first | exact St.cellI0 (by first | ((repeat (first | (with_reducible exact Take.head) | apply Take.tail)); done) | ((repeat (first | exact Take.head | apply Take.tail)); done)) HQ0.out | exact St.cellI (by first | ((repeat (first | (with_reducible exact Take.head) | apply Take.tail)); done) | ((repeat (first | exact Take.head | apply Take.tail)); done)) HQ0.out) ?_); (try go_simp)) | go_big_quiet_op); (first | go_big_quiet_on | (refine ⟨_, fun _ => rfl, ?_⟩; go_big_quiet_on)))
            refine wpPlan_forced ?_
            first | (refine wpOne_skip rfl rfl ?_; (try go_simp)) | (refine wpOne_1 rfl rfl ?_; intro K hK; go_simp; refine hK _ _ ?_ ?_; (focus (first | (with_reducible exact StW.mk' HS) | exact StW.mk' (HS.arr (by repeat (first | exact Arr.nil | (with_reducible exact take_all _) | (refine Arr.cons (by first | ((repeat (first | (with_reducible exact Take.head) | apply Take.tail)); done) | ((repeat (first | exact Take.head | apply Take.tail)); done)) ?_)))))); clear hK K)
            refine wpPlan_forced ?_
            first | (refine wpOne_skip rfl rfl ?_; (try go_simp)) | (refine wpOne_2 rfl rfl ?_; intro K hK; go_simp; refine hK _ _ ?_; clear hK K)
            refine wpPlan_done ?_
            go_wp2
            rw [List.set_set] at HS
            replace HS := HS.cutOwn (xs := y :: l) (l := 1) (sz := 1) (by first | ((repeat (first | (with_reducible exact Take.head) | apply Take.tail)); done) | ((repeat (first | exact Take.head | apply Take.tail)); done)) (by omega) rfl
            replace HS := HS.fill (xs := qs) (by first | ((repeat (first | (with_reducible exact Take.head) | apply Take.tail)); done) | ((repeat (first | exact Take.head | apply Take.tail)); done)) (show Take _ (ownA ((y :: l).drop 1) [_]) _ from (by first | ((repeat (first | (with_reducible exact Take.head) | apply Take.tail)); done) | ((repeat (first | exact Take.head | apply Take.tail)); done)))
            refine bodyPost_rets (by rfl) (RVs.tmp (by rfl) (RVs.tmp (by rfl) RVs.nil)) (by simp) (by rfl) ?_
            exact ⟨rfl, (HS.arr (.cons (by first | ((repeat (first | (with_reducible exact Take.head) | apply Take.tail)); done) | ((repeat (first | exact Take.head | apply Take.tail)); done)) (.cons (by first | ((repeat (first | (with_reducible exact Take.head) | apply Take.tail)); done) | ((repeat (first | exact Take.head | apply Take.tail)); done)) (.cons (by first | ((repeat (first | (with_reducible exact Take.head) | apply Take.tail)); done) | ((repeat (first | exact Take.head | apply Take.tail)); done)) (by repeat (first | exact take_all _ | exact arr_drop _ _ | exact arr_drop2 _ _ _ | exact Arr.nil))))))⟩
        case neg =>
          rw [if_neg hs] at hr
          have HR := hid hr
          clear hr hq ok
          go_wp2_with (first
                | ((with_reducible (show wpList _ _ _ (Oper.mk (some 9) (Op.load _ _) _ _ _ _ :: _) _ _)); refine wpList_loadS_st (o := ⟨some 9, .load _ _, _, _, _, _⟩) rfl _ _ rfl rfl HS (by first | ((repeat (first | (with_reducible exact Take.head) | apply Take.tail)); done) | ((repeat (first | exact Take.head | apply Take.tail)); done)) sc_int (by rfl) ?_)
                | ((with_reducible (show wpList _ _ _ (Oper.mk (some 13) (Op.load _ _) _ _ _ _ :: _) _ _)); refine wpList_loadS_st (o := ⟨some 13, .load _ _, _, _, _, _⟩) rfl _ _ rfl rfl HS (by first | ((repeat (first | (with_reducible exact Take.head) | apply Take.tail)); done) | ((repeat (first | exact Take.head | apply Take.tail)); done)) sc_SSint (by rfl) ?_)
                | ((with_reducible (show wpList _ _ _ (Oper.mk (some 16) (Op.load _ _) _ _ _ _ :: _) _ _)); refine wpList_loadC_st (o := ⟨some 16, .load _ _, _, _, _, _⟩) rfl _ _ rfl rfl HS sc_Sint (by first | exact St.cellG (by first | ((repeat (first | (with_reducible exact Take.head) | apply Take.tail)); done) | ((repeat (first | exact Take.head | apply Take.tail)); done))) ?_)
                | ((with_reducible (show wpList _ _ _ (Oper.mk (some 20) (Op.load _ _) _ _ _ _ :: _) _ _)); refine wpList_loadS_st (o := ⟨some 20, .load _ _, _, _, _, _⟩) rfl _ _ rfl rfl HS (by first | ((repeat (first | (with_reducible exact Take.head) | apply Take.tail)); done) | ((repeat (first | exact Take.head | apply Take.tail)); done)) sc_bool (by rfl) ?_))
          refine wp_region_plan_st HS (.early 0 (.early 4 (.early 7 (.fork 1 1 (.early 2 (.early 3 (.early 5 (.early 6 (.forced 8 1 (.forced 9 1 (.forced 10 1 (.forced 11 2 (.forced 12 2 (.forced 13 2 .done)))))))))) 8 1 (.early 9 (.early 10 (.forced 1 1 (.forced 2 1 (.forced 3 1 (.forced 5 1 (.forced 6 1 (.forced 11 2 (.forced 12 2 (.forced 13 2 .done)))))))))))))) (by kernel_rfl) (by as_aux_lemma => kernel_rfl) ?_
          intro hne
          replace HS := HS.drew
          try go_simp
          first | (refine wpPlan_skipE rfl rfl ?_; (try go_simp)) | (refine wpPlan_early rfl rfl ?_; intro K hK; (first | go_big_quiet_op); (first | go_big_quiet_on | (refine ⟨_, fun _ => rfl, ?_⟩; go_big_quiet_on)))
          first | (refine wpPlan_skipE rfl rfl ?_; (try go_simp)) | (refine wpPlan_early rfl rfl ?_; intro K hK; (first | go_big_quiet_op); (first | go_big_quiet_on | (refine ⟨_, fun _ => rfl, ?_⟩; go_big_quiet_on)))
          first | (refine wpPlan_skipE rfl rfl ?_; (try go_simp)) | (refine wpPlan_early rfl rfl ?_; intro K hK; (first | go_big_quiet_op); (first | go_big_quiet_on | (refine ⟨_, fun _ => rfl, ?_⟩; go_big_quiet_on)))
          refine wpPlan_fork ?_ ?_
          focus
            first | (refine wpOne_skip rfl rfl ?_; (try go_simp)) | (refine wpOne_1 rfl rfl ?_; intro K hK; go_simp; refine hK _ _ ?_ ?_; (focus (first | (with_reducible exact StW.mk' HS) | exact StW.mk' (HS.arr (by repeat (first | exact Arr.nil | (with_reducible exact take_all _) | (refine Arr.cons (by first | ((repeat (first | (with_reducible exact Take.head) | apply Take.tail)); done) | ((repeat (first | exact Take.head | apply Take.tail)); done)) ?_)))))); clear hK K)
            first | (refine wpPlan_skipE rfl rfl ?_; (try go_simp)) | (refine wpPlan_early rfl rfl ?_; intro K hK; (first | go_big_quiet_op); (first | go_big_quiet_on | (refine ⟨_, fun _ => rfl, ?_⟩; go_big_quiet_on)))
            first | (refine wpPlan_skipE rfl rfl ?_; (try go_simp)) | (refine wpPlan_early rfl rfl ?_; intro K hK; (first | ((refine quiet_loadS_st  _ _ rfl rfl (by first | ((repeat (first | (with_reducible exact Take.head) | apply Take.tail)); done) | ((repeat (first | exact Take.head | apply Take.tail)); done)) sc_Sint (by rfl) ?_); (try go_simp)) | go_big_quiet_op); (first | go_big_quiet_on | (refine ⟨_, fun _ => rfl, ?_⟩; go_big_quiet_on)))
            first | (refine wpPlan_skipE rfl rfl ?_; (try go_simp)) | (refine wpPlan_early rfl rfl ?_; intro K hK; (first | go_big_quiet_op); (first | go_big_quiet_on | (refine ⟨_, fun _ => rfl, ?_⟩; go_big_quiet_on)))
            first | (refine wpPlan_skipE rfl rfl ?_; (try go_simp)) | (refine wpPlan_early rfl rfl ?_; intro K hK; (first | ((refine quiet_loadC_st  _ _ rfl rfl sc_int (by first | exact St.cellI (by first | ((repeat (first | (with_reducible exact Take.head) | apply Take.tail)); done) | ((repeat (first | exact Take.head | apply Take.tail)); done)) HD.out | exact St.cellI (by first | ((repeat (first | (with_reducible exact Take.head) | apply Take.tail)); done) | ((repeat (first | exact Take.head | apply Take.tail)); done)) HD2.out) ?_); (try go_simp)) | go_big_quiet_op); (first | go_big_quiet_on | (refine ⟨_, fun _ => rfl, ?_⟩; go_big_quiet_on)))
            refine wpPlan_forced ?_
            first | (refine wpOne_skip rfl rfl ?_; (try go_simp)) | (refine wpOne_1 rfl rfl ?_; intro K hK; go_simp; refine hK _ _ ?_ ?_; (focus (first | (with_reducible exact StW.mk' HS) | exact StW.mk' (HS.arr (by repeat (first | exact Arr.nil | (with_reducible exact take_all _) | (refine Arr.cons (by first | ((repeat (first | (with_reducible exact Take.head) | apply Take.tail)); done) | ((repeat (first | exact Take.head | apply Take.tail)); done)) ?_)))))); clear hK K)
            refine wpPlan_forced ?_
            first | (refine wpOne_skip rfl rfl ?_; (try go_simp)) | (refine wpOne_1 rfl rfl ?_; intro K hK; go_simp; refine hK _ _ ?_ ?_; (focus (first | (with_reducible exact StW.mk' HS) | exact StW.mk' (HS.arr (by repeat (first | exact Arr.nil | (with_reducible exact take_all _) | (refine Arr.cons (by first | ((repeat (first | (with_reducible exact Take.head) | apply Take.tail)); done) | ((repeat (first | exact Take.head | apply Take.tail)); done)) ?_)))))); clear hK K)
            refine wpPlan_forced ?_
            first | (refine wpOne_skip rfl rfl ?_; (try go_simp)) | (refine wpOne_1 rfl rfl ?_; intro K hK; (first | (refine wp_loadS_st  _ _ rfl rfl HS (by first | ((repeat (first | (with_reducible exact Take.head) | apply Take.tail)); done) | ((repeat (first | exact Take.head | apply Take.tail)); done)) sc_int (by rfl) ?_)); (try go_simp); refine hK _ _ ?_ ?_; (focus (first | (with_reducible exact StW.mk' HS) | exact StW.mk' (HS.arr (by repeat (first | exact Arr.nil | (with_reducible exact take_all _) | (refine Arr.cons (by first | ((repeat (first | (with_reducible exact Take.head) | apply Take.tail)); done) | ((repeat (first | exact Take.head | apply Take.tail)); done)) ?_)))))); clear hK K)
            refine wpPlan_forced ?_
            first | (refine wpOne_skip rfl rfl ?_; (try go_simp)) | (refine wpOne_2 rfl rfl ?_; intro K hK; go_simp; refine hK _ _ ?_; clear hK K)
            refine wpPlan_forced ?_
            first | (refine wpOne_skip rfl rfl ?_; (try go_simp)) | (refine wpOne_2 rfl rfl ?_; intro K hK; go_simp; refine hK _ _ ?_; clear hK K)
            refine wpPlan_forced ?_
            first | (refine wpOne_skip rfl rfl ?_; (try go_simp)) | (refine wpOne_2 rfl rfl ?_; intro K hK; (first | (refine wp_storeI_st  (v := d + qu) _ _ _ rfl rfl rfl HS (by first | ((repeat (first | (with_reducible exact Take.head) | apply Take.tail)); done) | ((repeat (first | exact Take.head | apply Take.tail)); done)) sz_int (by first | exact htd | (rw [List.length_set]; exact htd)) (by unfold i64ok; omega) ?_ rfl; clear HS; intro w4_13 hz4_13 HS)); (try go_simp); refine hK _ _ ?_; clear hK K)
            refine wpPlan_done ?_
          rotate_left 1
          focus
            first | (refine wpOne_skip rfl rfl ?_; (try go_simp)) | (refine wpOne_1 rfl rfl ?_; intro K hK; go_simp; refine hK _ _ ?_ ?_; (focus (first | (with_reducible exact StW.mk' HS) | exact StW.mk' (HS.arr (by repeat (first | exact Arr.nil | (with_reducible exact take_all _) | (refine Arr.cons (by first | ((repeat (first | (with_reducible exact Take.head) | apply Take.tail)); done) | ((repeat (first | exact Take.head | apply Take.tail)); done)) ?_)))))); clear hK K)
            first | (refine wpPlan_skipE rfl rfl ?_; (try go_simp)) | (refine wpPlan_early rfl rfl ?_; intro K hK; (first | go_big_quiet_op); (first | go_big_quiet_on | (refine ⟨_, fun _ => rfl, ?_⟩; go_big_quiet_on)))
            first | (refine wpPlan_skipE rfl rfl ?_; (try go_simp)) | (refine wpPlan_early rfl rfl ?_; intro K hK; (first | ((refine quiet_loadS_st  _ _ rfl rfl (by first | ((repeat (first | (with_reducible exact Take.head) | apply Take.tail)); done) | ((repeat (first | exact Take.head | apply Take.tail)); done)) sc_int (by rfl) ?_); (try go_simp)) | go_big_quiet_op); (first | go_big_quiet_on | (refine ⟨_, fun _ => rfl, ?_⟩; go_big_quiet_on)))
            refine wpPlan_forced ?_
            first | (refine wpOne_skip rfl rfl ?_; (try go_simp)) | (refine wpOne_1 rfl rfl ?_; intro K hK; go_simp; refine hK _ _ ?_ ?_; (focus (first | (with_reducible exact StW.mk' HS) | exact StW.mk' (HS.arr (by repeat (first | exact Arr.nil | (with_reducible exact take_all _) | (refine Arr.cons (by first | ((repeat (first | (with_reducible exact Take.head) | apply Take.tail)); done) | ((repeat (first | exact Take.head | apply Take.tail)); done)) ?_)))))); clear hK K)
            refine wpPlan_forced ?_
            first | (refine wpOne_skip rfl rfl ?_; (try go_simp)) | (refine wpOne_1 rfl rfl ?_; intro K hK; go_simp; refine hK _ _ ?_ ?_; (focus (first | (with_reducible exact StW.mk' HS) | exact StW.mk' (HS.arr (by repeat (first | exact Arr.nil | (with_reducible exact take_all _) | (refine Arr.cons (by first | ((repeat (first | (with_reducible exact Take.head) | apply Take.tail)); done) | ((repeat (first | exact Take.head | apply Take.tail)); done)) ?_)))))); clear hK K)
            refine wpPlan_forced ?_
            first | (refine wpOne_skip rfl rfl ?_; (try go_simp)) | (refine wpOne_1 rfl rfl ?_; intro K hK; (first | (refine wp_loadS_st  _ _ rfl rfl HS (by first | ((repeat (first | (with_reducible exact Take.head) | apply Take.tail)); done) | ((repeat (first | exact Take.head | apply Take.tail)); done)) sc_Sint (by rfl) ?_)); (try go_simp); refine hK _ _ ?_ ?_; (focus (first | (with_reducible exact StW.mk' HS) | exact StW.mk' (HS.arr (by repeat (first | exact Arr.nil | (with_reducible exact take_all _) | (refine Arr.cons (by first | ((repeat (first | (with_reducible exact Take.head) | apply Take.tail)); done) | ((repeat (first | exact Take.head | apply Take.tail)); done)) ?_)))))); clear hK K)
            refine wpPlan_forced ?_
            first | (refine wpOne_skip rfl rfl ?_; (try go_simp)) | (refine wpOne_1 rfl rfl ?_; intro K hK; go_simp; refine hK _ _ ?_ ?_; (focus (first | (with_reducible exact StW.mk' HS) | exact StW.mk' (HS.arr (by repeat (first | exact Arr.nil | (with_reducible exact take_all _) | (refine Arr.cons (by first | ((repeat (first | (with_reducible exact Take.head) | apply Take.tail)); done) | ((repeat (first | exact Take.head | apply Take.tail)); done)) ?_)))))); clear hK K)
            refine wpPlan_forced ?_
            first | (refine wpOne_skip rfl rfl ?_; (try go_simp)) | (refine wpOne_1 rfl rfl ?_; intro K hK; (first | (refine wp_loadC_st  _ _ rfl rfl HS sc_int (by first | exact St.cellI (by first | ((repeat (first | (with_reducible exact Take.head) | apply Take.tail)); done) | ((repeat (first | exact Take.head | apply Take.tail)); done)) HD.out | exact St.cellI (by first | ((repeat (first | (with_reducible exact Take.head) | apply Take.tail)); done) | ((repeat (first | exact Take.head | apply Take.tail)); done)) HD2.out) ?_)); (try go_simp); refine hK _ _ ?_ ?_; (focus (first | (with_reducible exact StW.mk' HS) | exact StW.mk' (HS.arr (by repeat (first | exact Arr.nil | (with_reducible exact take_all _) | (refine Arr.cons (by first | ((repeat (first | (with_reducible exact Take.head) | apply Take.tail)); done) | ((repeat (first | exact Take.head | apply Take.tail)); done)) ?_)))))); clear hK K)
            refine wpPlan_forced ?_
            first | (refine wpOne_skip rfl rfl ?_; (try go_simp)) | (refine wpOne_2 rfl rfl ?_; intro K hK; go_simp; refine hK _ _ ?_; clear hK K)
            refine wpPlan_forced ?_
            first | (refine wpOne_skip rfl rfl ?_; (try go_simp)) | (refine wpOne_2 rfl rfl ?_; intro K hK; go_simp; refine hK _ _ ?_; clear hK K)
            refine wpPlan_forced ?_
            first | (refine wpOne_skip rfl rfl ?_; (try go_simp)) | (refine wpOne_2 rfl rfl ?_; intro K hK; (first | (refine wp_storeI_st  (v := d + qu) _ _ _ rfl rfl rfl HS (by first | ((repeat (first | (with_reducible exact Take.head) | apply Take.tail)); done) | ((repeat (first | exact Take.head | apply Take.tail)); done)) sz_int (by first | exact htd | (rw [List.length_set]; exact htd)) (by unfold i64ok; omega) ?_ rfl; clear HS; intro w4_13 hz4_13 HS)); (try go_simp); refine hK _ _ ?_; clear hK K)
            refine wpPlan_done ?_
          all_goals
            go_wp2_with (first
                  | ((with_reducible (show wpList _ _ _ (Oper.mk none (Op.store _ (.tmp 41) _) _ _ _ _ :: _) _ _)); refine wpList_store_st (o := ⟨none, .store _ (.tmp 41) _, _, _, _, _⟩) rfl _ _ _ rfl rfl (v := .bool _) rfl HS (by first | ((repeat (first | (with_reducible exact Take.head) | apply Take.tail)); done) | ((repeat (first | exact Take.head | apply Take.tail)); done)) sz_bool (by simp only [Value.cells]; rfl) (by rfl) (by rfl) (by simp) ?_ rfl; clear HS; intro w5_3 hz5_3 HS; simp only [nicL, Value.cells, List.append_nil] at HS)
                  | ((with_reducible (show wpList _ _ _ (Oper.mk none (Op.store _ (.tmp 41) _) _ _ _ _ :: _) _ _)); refine wpList_store_st (o := ⟨none, .store _ (.tmp 41) _, _, _, _, _⟩) rfl _ _ _ rfl rfl (v := _) rfl HS (by first | ((repeat (first | (with_reducible exact Take.head) | apply Take.tail)); done) | ((repeat (first | exact Take.head | apply Take.tail)); done)) sz_bool (by simp only [Value.cells]; rfl) (by rfl) (by rfl) (by simp) ?_ rfl; clear HS; intro w5_3 hz5_3 HS; simp only [nicL, Value.cells, List.append_nil] at HS))
            refine wp_region_plan_st HS (.forced 0 1 (.forced 1 1 (.forced 2 1 (.forced 3 1 (.early 4 (.early 5 (.early 6 (.early 7 (.early 11 (.forced 8 1 (.forced 9 1 (.forced 10 1 (.forced 12 1 (.forced 13 1 (.forced 14 2 (.forced 15 2 .done)))))))))))))))) (by kernel_rfl) (by as_aux_lemma => kernel_rfl) ?_
            intro hne
            replace HS := HS.drew
            try go_simp
            refine wpPlan_forced ?_
            first | (refine wpOne_skip rfl rfl ?_; (try go_simp)) | (refine wpOne_1 rfl rfl ?_; intro K hK; go_simp; refine hK _ _ ?_ ?_; (focus (first | (with_reducible exact StW.mk' HS) | exact StW.mk' (HS.arr (by repeat (first | exact Arr.nil | (with_reducible exact take_all _) | (refine Arr.cons (by first | ((repeat (first | (with_reducible exact Take.head) | apply Take.tail)); done) | ((repeat (first | exact Take.head | apply Take.tail)); done)) ?_)))))); clear hK K)
            refine wpPlan_forced ?_
            first | (refine wpOne_skip rfl rfl ?_; (try go_simp)) | (refine wpOne_1 rfl rfl ?_; intro K hK; go_simp; refine hK _ _ ?_ ?_; (focus (first | (with_reducible exact StW.mk' HS) | exact StW.mk' (HS.arr (by repeat (first | exact Arr.nil | (with_reducible exact take_all _) | (refine Arr.cons (by first | ((repeat (first | (with_reducible exact Take.head) | apply Take.tail)); done) | ((repeat (first | exact Take.head | apply Take.tail)); done)) ?_)))))); clear hK K)
            refine wpPlan_forced ?_
            first | (refine wpOne_skip rfl rfl ?_; (try go_simp)) | (refine wpOne_1 rfl rfl ?_; intro K hK; go_simp; refine hK _ _ ?_ ?_; (focus (first | (with_reducible exact StW.mk' HS) | exact StW.mk' (HS.arr (by repeat (first | exact Arr.nil | (with_reducible exact take_all _) | (refine Arr.cons (by first | ((repeat (first | (with_reducible exact Take.head) | apply Take.tail)); done) | ((repeat (first | exact Take.head | apply Take.tail)); done)) ?_)))))); clear hK K)
            refine wpPlan_forced ?_
            first | (refine wpOne_skip rfl rfl ?_; (try go_simp)) | (refine wpOne_1 rfl rfl ?_; intro K hK; go_simp; refine hK _ _ ?_ ?_; (focus (first | (with_reducible exact StW.mk' HS) | exact StW.mk' (HS.arr (by repeat (first | exact Arr.nil | (with_reducible exact take_all _) | (refine Arr.cons (by first | ((repeat (first | (with_reducible exact Take.head) | apply Take.tail)); done) | ((repeat (first | exact Take.head | apply Take.tail)); done)) ?_)))))); clear hK K)
            first | (refine wpPlan_skipE rfl rfl ?_; (try go_simp)) | (refine wpPlan_early rfl rfl ?_; intro K hK; (first | go_big_quiet_op); (first | go_big_quiet_on | (refine ⟨_, fun _ => rfl, ?_⟩; go_big_quiet_on)))
            first | (refine wpPlan_skipE rfl rfl ?_; (try go_simp)) | (refine wpPlan_early rfl rfl ?_; intro K hK; (first | go_big_quiet_op); (first | go_big_quiet_on | (refine ⟨_, fun _ => rfl, ?_⟩; go_big_quiet_on)))
            first | (refine wpPlan_skipE rfl rfl ?_; (try go_simp)) | (refine wpPlan_early rfl rfl ?_; intro K hK; (first | ((refine quiet_loadC_st  _ _ rfl rfl sc_int (by first | exact St.cellI0 (by first | ((repeat (first | (with_reducible exact Take.head) | apply Take.tail)); done) | ((repeat (first | exact Take.head | apply Take.tail)); done)) HQ0.out | exact St.cellI (by first | ((repeat (first | (with_reducible exact Take.head) | apply Take.tail)); done) | ((repeat (first | exact Take.head | apply Take.tail)); done)) HQ0.out) ?_); (try go_simp)) | go_big_quiet_op); (first | go_big_quiet_on | (refine ⟨_, fun _ => rfl, ?_⟩; go_big_quiet_on)))
            first | (refine wpPlan_skipE rfl rfl ?_; (try go_simp)) | (refine wpPlan_early rfl rfl ?_; intro K hK; (first | go_big_quiet_op); (first | go_big_quiet_on | (refine ⟨_, fun _ => rfl, ?_⟩; go_big_quiet_on)))
            first | (refine wpPlan_skipE rfl rfl ?_; (try go_simp)) | (refine wpPlan_early rfl rfl ?_; intro K hK; (first | go_big_quiet_op); (first | go_big_quiet_on | (refine ⟨_, fun _ => rfl, ?_⟩; go_big_quiet_on)))
            refine wpPlan_forced ?_
            first | (refine wpOne_skip rfl rfl ?_; (try go_simp)) | (refine wpOne_1 rfl rfl ?_; intro K hK; go_simp; refine hK _ _ ?_ ?_; (focus (first | (with_reducible exact StW.mk' HS) | exact StW.mk' (HS.arr (by repeat (first | exact Arr.nil | (with_reducible exact take_all _) | (refine Arr.cons (by first | ((repeat (first | (with_reducible exact Take.head) | apply Take.tail)); done) | ((repeat (first | exact Take.head | apply Take.tail)); done)) ?_)))))); clear hK K)
            refine wpPlan_forced ?_
            first | (refine wpOne_skip rfl rfl ?_; (try go_simp)) | (refine wpOne_1 rfl rfl ?_; intro K hK; go_simp; refine hK _ _ ?_ ?_; (focus (first | (with_reducible exact StW.mk' HS) | exact StW.mk' (HS.arr (by repeat (first | exact Arr.nil | (with_reducible exact take_all _) | (refine Arr.cons (by first | ((repeat (first | (with_reducible exact Take.head) | apply Take.tail)); done) | ((repeat (first | exact Take.head | apply Take.tail)); done)) ?_)))))); clear hK K)
            refine wpPlan_forced ?_
            first | (refine wpOne_skip rfl rfl ?_; (try go_simp)) | (refine wpOne_1 rfl rfl ?_; intro K hK; (first | (refine wp_loadS_st  _ _ rfl rfl HS (by first | ((repeat (first | (with_reducible exact Take.head) | apply Take.tail)); done) | ((repeat (first | exact Take.head | apply Take.tail)); done)) sc_Sint (by rfl) ?_)); (try go_simp); refine hK _ _ ?_ ?_; (focus (first | (with_reducible exact StW.mk' HS) | exact StW.mk' (HS.arr (by repeat (first | exact Arr.nil | (with_reducible exact take_all _) | (refine Arr.cons (by first | ((repeat (first | (with_reducible exact Take.head) | apply Take.tail)); done) | ((repeat (first | exact Take.head | apply Take.tail)); done)) ?_)))))); clear hK K)
            refine wpPlan_forced ?_
            first | (refine wpOne_skip rfl rfl ?_; (try go_simp)) | (refine wpOne_1 rfl rfl ?_; intro K hK; go_simp; refine hK _ _ ?_ ?_; (focus (first | (with_reducible exact StW.mk' HS) | exact StW.mk' (HS.arr (by repeat (first | exact Arr.nil | (with_reducible exact take_all _) | (refine Arr.cons (by first | ((repeat (first | (with_reducible exact Take.head) | apply Take.tail)); done) | ((repeat (first | exact Take.head | apply Take.tail)); done)) ?_)))))); clear hK K)
            refine wpPlan_forced ?_
            first | (refine wpOne_skip rfl rfl ?_; (try go_simp)) | (refine wpOne_1 rfl rfl ?_; intro K hK; (first | (refine wp_loadC_st  _ _ rfl rfl HS sc_int (by first | exact St.cellI (by first | ((repeat (first | (with_reducible exact Take.head) | apply Take.tail)); done) | ((repeat (first | exact Take.head | apply Take.tail)); done)) HD.out | exact St.cellI (by first | ((repeat (first | (with_reducible exact Take.head) | apply Take.tail)); done) | ((repeat (first | exact Take.head | apply Take.tail)); done)) HD2.out) ?_)); (try go_simp); refine hK _ _ ?_ ?_; (focus (first | (with_reducible exact StW.mk' HS) | exact StW.mk' (HS.arr (by repeat (first | exact Arr.nil | (with_reducible exact take_all _) | (refine Arr.cons (by first | ((repeat (first | (with_reducible exact Take.head) | apply Take.tail)); done) | ((repeat (first | exact Take.head | apply Take.tail)); done)) ?_)))))); clear hK K)
            refine wpPlan_forced ?_
            first | (refine wpOne_skip rfl rfl ?_; (try go_simp)) | (refine wpOne_2 rfl rfl ?_; intro K hK; go_simp; refine hK _ _ ?_; clear hK K)
            refine wpPlan_forced ?_
            first | (refine wpOne_skip rfl rfl ?_; (try go_simp)) | (refine wpOne_2 rfl rfl ?_; intro K hK; go_simp; refine hK _ _ ?_; clear hK K)
            refine wpPlan_done ?_
            go_wp2_with (first
                  | ((with_reducible (show wpList _ _ _ (Oper.mk (some 88) (Op.load _ _) _ _ _ _ :: _) _ _)); refine wpList_loadS_st (o := ⟨some 88, .load _ _, _, _, _, _⟩) rfl _ _ rfl rfl HS (by first | ((repeat (first | (with_reducible exact Take.head) | apply Take.tail)); done) | ((repeat (first | exact Take.head | apply Take.tail)); done)) sc_Sint (by rfl) ?_)
                  | ((with_reducible (show wpList _ _ _ (Oper.mk none (Op.store _ (.tmp 90) _) _ _ _ _ :: _) _ _)); refine wpList_storeI_st (v := 0) (o := ⟨none, .store _ (.tmp 90) _, _, _, _, _⟩) rfl _ _ _ rfl rfl rfl HS (by first | ((repeat (first | (with_reducible exact Take.head) | apply Take.tail)); done) | ((repeat (first | exact Take.head | apply Take.tail)); done)) sz_int (by first | exact htd | (rw [List.length_set]; exact htd)) (by unfold i64ok; omega) ?_ rfl; clear HS; intro w11_6 hz11_6 HS)
                  | ((with_reducible (show wpList _ _ _ (Oper.mk (some 97) (Op.load _ _) _ _ _ _ :: _) _ _)); refine wpList_loadS_st (o := ⟨some 97, .load _ _, _, _, _, _⟩) rfl _ _ rfl rfl HS (by first | ((repeat (first | (with_reducible exact Take.head) | apply Take.tail)); done) | ((repeat (first | exact Take.head | apply Take.tail)); done)) sc_SSint (by rfl) ?_)
                  | ((with_reducible (show wpList _ _ _ (Oper.mk none (Op.store _ (.tmp 101) _) _ _ _ _ :: _) _ _)); refine wpList_store_st (o := ⟨none, .store _ (.tmp 101) _, _, _, _, _⟩) rfl _ _ _ rfl rfl (v := .int .i64 _) rfl HS (by first | ((repeat (first | (with_reducible exact Take.head) | apply Take.tail)); done) | ((repeat (first | exact Take.head | apply Take.tail)); done)) sz_int (by simp only [Value.cells]; rfl) (by rfl) (by rfl) (by simp) ?_ rfl; clear HS; intro w12_11 hz12_11 HS; simp only [nicL, Value.cells, List.append_nil] at HS)
                  | ((with_reducible (show wpList _ _ _ (Oper.mk none (Op.store _ (.tmp 101) _) _ _ _ _ :: _) _ _)); refine wpList_store_st (o := ⟨none, .store _ (.tmp 101) _, _, _, _, _⟩) rfl _ _ _ rfl rfl (v := _) rfl HS (by first | ((repeat (first | (with_reducible exact Take.head) | apply Take.tail)); done) | ((repeat (first | exact Take.head | apply Take.tail)); done)) sz_int (by simp only [Value.cells]; rfl) (by rfl) (by rfl) (by simp) ?_ rfl; clear HS; intro w12_11 hz12_11 HS; simp only [nicL, Value.cells, List.append_nil] at HS)
                  | ((with_reducible (show wpList _ _ _ (Oper.mk none (Op.store _ (.tmp 104) _) _ _ _ _ :: _) _ _)); refine wpList_store_st (o := ⟨none, .store _ (.tmp 104) _, _, _, _, _⟩) rfl _ _ _ rfl rfl (v := .bool _) rfl HS (by first | ((repeat (first | (with_reducible exact Take.head) | apply Take.tail)); done) | ((repeat (first | exact Take.head | apply Take.tail)); done)) sz_bool (by simp only [Value.cells]; rfl) (by rfl) (by rfl) (by simp) ?_ rfl; clear HS; intro w13_3 hz13_3 HS; simp only [nicL, Value.cells, List.append_nil] at HS)
                  | ((with_reducible (show wpList _ _ _ (Oper.mk none (Op.store _ (.tmp 104) _) _ _ _ _ :: _) _ _)); refine wpList_store_st (o := ⟨none, .store _ (.tmp 104) _, _, _, _, _⟩) rfl _ _ _ rfl rfl (v := _) rfl HS (by first | ((repeat (first | (with_reducible exact Take.head) | apply Take.tail)); done) | ((repeat (first | exact Take.head | apply Take.tail)); done)) sz_bool (by simp only [Value.cells]; rfl) (by rfl) (by rfl) (by simp) ?_ rfl; clear HS; intro w13_3 hz13_3 HS; simp only [nicL, Value.cells, List.append_nil] at HS))
            replace HS := HS.fill (xs := qs) (by first | ((repeat (first | (with_reducible exact Take.head) | apply Take.tail)); done) | ((repeat (first | exact Take.head | apply Take.tail)); done)) (show Take _ (ownA (y :: l) [_]) _ from (by first | ((repeat (first | (with_reducible exact Take.head) | apply Take.tail)); done) | ((repeat (first | exact Take.head | apply Take.tail)); done)))
            rw [set_same htl HQ.out] at HS
            rw [show ((tu : Int) + 1) % (qs.length : Int) = (((tu + 1) % qs.length : Nat) : Int) from by push_cast; rfl] at HS
            go_roundg f
            case measure => omega
            case rel => exact ⟨_, (tu + 1) % qs.length, true, (by have h9 := HO.out.new htd (by rw [HDD.out]; omega); rw [HDD.out] at h9; exact h9), HR.out, (HS.arr (.cons (by first | ((repeat (first | (with_reducible exact Take.head) | apply Take.tail)); done) | ((repeat (first | exact Take.head | apply Take.tail)); done)) (.cons (by first | ((repeat (first | (with_reducible exact Take.head) | apply Take.tail)); done) | ((repeat (first | exact Take.head | apply Take.tail)); done)) (.cons (by first | ((repeat (first | (with_reducible exact Take.head) | apply Take.tail)); done) | ((repeat (first | exact Take.head | apply Take.tail)); done)) (by repeat (first | exact take_all _ | exact arr_drop _ _ | exact arr_drop2 _ _ _ | exact Arr.nil))))))⟩


end Go.Proofs.Ytigepcpmdhcenaa
