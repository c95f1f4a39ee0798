/- The walk of FnExactAcceptedPackets. -/
import Derived.Test.YtihgekgkonacfaaRows
import Derived.Test.YtihgekgkonacfaaAccP
import Derived.Test.YtihgekgkonacfaaFiltL
import Derived.Test.YtihgekgkonacfaaHeld
import Derived.Test.YtihgekgkonacfaaTk
namespace Go.Proofs.Ytihgekgkonacfaa
open Go.RowKit
set_option linter.unusedVariables false
set_option linter.unusedSimpArgs false

theorem markIntS_st {w0 : World} {Js : List Asn} (v : Value) (xs : List Int) (q : Nat) (w : World) (HS : St w0 w (ownA xs [v] :: Js)) (h1 : q + xs.length ≤ 4611686018427387904) {k : Int} (hk : k = (q : Int)) :
    Calls Try.prog 37 #[v, .int .i64 k] w (fun e w' => e = .returned (.int .i64 ((q + xs.length : Nat) : Int)) ∧ St w0 w' (ownA (marks xs.length (q : Int)) [v] :: Js)) := by
  subst hk
  have := HS.marked (y := marks xs.length (q : Int)) (P := Try.prog) (f := 37) (args := #[v, .int .i64 (q : Int)]) (k := (q : Int) + xs.length) .head (fun bs t _ hf => markIntS_any v xs bs _ w t hf (by omega) (by omega))
  rwa [show ((q + xs.length : Nat) : Int) = (q : Int) + xs.length from by omega]

set_option maxRecDepth 100000 in
set_option maxHeartbeats 4000000 in
theorem markFilter_st {w0 : World} {Js : List Asn} (v : Value) (xs : List Int) (mac : Int) (pr : Bool) (q : Nat) (w : World) (HS : St w0 w (ownA xs [v] :: Js)) (h1 : q + xs.length ≤ 4611686018427387904) {k : Int} (hk : k = (q : Int)) :
    Calls Try.prog 20 #[.agg #[.int .i64 mac, .bool pr, v], .int .i64 k] w (fun e w' => e = .returned (.int .i64 ((q + xs.length : Nat) : Int)) ∧ St w0 w' (ownA (marks xs.length (q : Int)) [v] :: Js)) := by
  subst hk
  obtain ⟨A1, c1, rfl⟩ := ownA.form HS .head
  go_enter Try.func20, Try.ntmps20
  go_wp2_with (first
        | (go_at_call 37; (with_reducible refine (markIntS_st _ xs q _ (HS.take tk) h1 rfl).mono ?_); rintro e w' ⟨rfl, HS9⟩; clear HS; have HS := HS9; clear HS9)
        | ((with_reducible (show wpList _ _ _ (Oper.mk (some 2) (Op.box _ _) _ _ _ _ :: _) _ _)); refine wpList_box_st (o := ⟨some 2, .box _ _, _, _, _, _⟩) rfl _ _ rfl (v := .agg (List.toArray _)) rfl HS ?_; clear HS; intro w2 b2 hb2 HS; simp only [Value.cells] at HS)
        | ((with_reducible (show wpList _ _ _ (Oper.mk (some 2) (Op.box _ _) _ _ _ _ :: _) _ _)); refine wpList_box_st (o := ⟨some 2, .box _ _, _, _, _, _⟩) rfl _ _ rfl (v := .agg _) rfl HS ?_; clear HS; intro w2 b2 hb2 HS; simp only [Value.cells] at HS)
        | ((with_reducible (show wpList _ _ _ (Oper.mk (some 6) (Op.load _ _) _ _ _ _ :: _) _ _)); refine wpList_loadS_st (o := ⟨some 6, .load _ _, _, _, _, _⟩) rfl _ _ rfl rfl HS tk sc_Sint rfx ?_))
  go_ret
  exact ⟨rfl, HS.arr (.cons tk (arr_drop _ _))⟩

theorem openFilter {w : World} {mac : Int} {pr : Bool} {xs : List Int} {vs : List Value} (h : Holds w (mac, pr, xs) vs) : ∃ v, vs = [.int .i64 mac, .bool pr, v] ∧ Holds w xs [v] := by
  obtain ⟨bs, _, _, _, _, rfl, _, ⟨rfl, _, hb⟩, _, _, _, _, rfl, _, ⟨rfl, _⟩, t⟩ := h
  have t' := t
  obtain ⟨a, cap, rfl, _⟩ := t'
  exact ⟨_, rfl, _, t⟩

set_option maxRecDepth 100000 in
set_option maxHeartbeats 16000000 in
theorem walk_FnExactAcceptedPackets (w : World) (aF : Array Value) (aFD : Int × Bool × List Int) (haF : Holds w aFD aF.toList) (aList : Value) (aListD : List (Int × Int × Int × Int × Int × Int × Int × Int × (Int × Int × Int × Int × Int × Int × Int × ByteArray))) (haList : Holds w aListD [aList]) :
    Calls Try.prog 4 #[.agg aF, aList] w fun e w' => e = .returned (.bool true) ∧ Ex w w' := by
  obtain ⟨mac, pr, xs⟩ := aFD
  obtain ⟨vF, eF, k1⟩ := openFilter haF
  obtain rfl : aF = #[.int .i64 mac, .bool pr, vF] := Array.toList_inj.1 eF
  obtain ⟨AA, cap, rfl, z1, z2⟩ := k1.fl
  unfold maxLen at z2
  obtain ⟨l, hl⟩ : ∃ l, l = aListD := ⟨_, rfl⟩
  rw [← hl] at haList
  have k2 := haList
  clear haF eF haList hl
  obtain ⟨BB, cap2, rfl, y1, y2⟩ := k2.fl
  unfold maxLen at y2
  by_cases hb1 : (1048576 : Int) < xs.length
  case pos =>
    have HS := St.start w
    go_enter Try.func4, Try.ntmps4
    go_wp2_with (first
          | (go_at_call 13; (with_reducible refine (szFilter_gt mac pr _ xs _ _ (k1.ex HS.ex) (by omega) (by omega) (by omega)).mono ?_); rintro e w' ⟨rfl, hx⟩; replace HS := HS.grow hx; clear hx)
          | ((with_reducible (show wpList _ _ _ (Oper.mk (some 2) (Op.box _ _) _ _ _ _ :: _) _ _)); refine wpList_box_st (o := ⟨some 2, .box _ _, _, _, _, _⟩) rfl _ _ rfl (v := .agg (List.toArray _)) rfl HS ?_; clear HS; intro w2 b2 hb2 HS; simp only [Value.cells] at HS)
          | ((with_reducible (show wpList _ _ _ (Oper.mk (some 2) (Op.box _ _) _ _ _ _ :: _) _ _)); refine wpList_box_st (o := ⟨some 2, .box _ _, _, _, _, _⟩) rfl _ _ rfl (v := .agg _) rfl HS ?_; clear HS; intro w2 b2 hb2 HS; simp only [Value.cells] at HS)
          | ((with_reducible (show wpList _ _ _ (Oper.mk (some 14) (Op.load _ _) _ _ _ _ :: _) _ _)); refine wpList_loadA_st (o := ⟨some 14, .load _ _, _, _, _, _⟩) rfl _ _ rfl rfl HS tk ag_laws_Filter lit rfl ?_)
          | ((with_reducible (show wpList _ _ _ (Oper.mk (some 24) (Op.load _ _) _ _ _ _ :: _) _ _)); refine wpList_loadA_st (o := ⟨some 24, .load _ _, _, _, _, _⟩) rfl _ _ rfl rfl HS tk ag_laws_Filter lit rfl ?_)
          | ((with_reducible (show wpList _ _ _ (Oper.mk (some 29) (Op.load _ _) _ _ _ _ :: _) _ _)); refine wpList_loadA_st (o := ⟨some 29, .load _ _, _, _, _, _⟩) rfl _ _ rfl rfl HS tk ag_laws_Filter lit rfl ?_)
          | ((with_reducible (show wpList _ _ _ (Oper.mk (some 7) (Op.alloc _) _ _ _ _ :: _) _ _)); refine wpList_alloc_st (o := ⟨some 7, .alloc _, _, _, _, _⟩) rfl _ rfl zc_impl_Filter HS ?_; clear HS; intro w7 b7 hb7 HS)
          | ((with_reducible (show wpList _ _ _ (Oper.mk none (Op.store _ (.tmp 7) _) _ _ _ _ :: _) _ _)); refine wpList_store_st (o := ⟨none, .store _ (.tmp 7) _, _, _, _, _⟩) rfl _ _ _ rfl rfl (v := .agg (List.toArray _)) rfl HS tk sz_impl_Filter vcs rfx rfx (by simp) ?_ rfl; clear HS; intro w9_3 hz9_3 HS; simp only [nicL, Value.cells, List.append_nil] at HS)
          | ((with_reducible (show wpList _ _ _ (Oper.mk none (Op.store _ (.tmp 7) _) _ _ _ _ :: _) _ _)); refine wpList_store_st (o := ⟨none, .store _ (.tmp 7) _, _, _, _, _⟩) rfl _ _ _ rfl rfl (v := .agg _) rfl HS tk sz_impl_Filter vcs rfx rfx (by simp) ?_ rfl; clear HS; intro w9_3 hz9_3 HS; simp only [nicL, Value.cells, List.append_nil] at HS)
          | ((with_reducible (show wpList _ _ _ (Oper.mk (some 33) (Op.load _ _) _ _ _ _ :: _) _ _)); refine wpList_loadA_st (o := ⟨some 33, .load _ _, _, _, _, _⟩) rfl _ _ rfl rfl HS tk ag_impl_Filter lit rfl ?_)
          | ((with_reducible (show wpList _ _ _ (Oper.mk (some 50) (Op.load _ _) _ _ _ _ :: _) _ _)); refine wpList_loadA_st (o := ⟨some 50, .load _ _, _, _, _, _⟩) rfl _ _ rfl rfl HS tk ag_impl_Filter lit rfl ?_)
          | ((with_reducible (show wpList _ _ _ (Oper.mk (some 75) (Op.load _ _) _ _ _ _ :: _) _ _)); refine wpList_loadA_st (o := ⟨some 75, .load _ _, _, _, _, _⟩) rfl _ _ rfl rfl HS tk ag_laws_Filter lit rfl ?_))
    go_ret
    exact ⟨rfl, HS.ex⟩
  case neg =>
  by_cases hb2 : (1048576 : Int) - xs.length < ((l.length + totPacket l : Nat) : Int)
  case pos =>
    have HS := St.start w
    go_enter Try.func4, Try.ntmps4
    go_wp2_with (first
          | (go_at_call 13; (with_reducible refine (szFilter_le mac pr _ xs _ _ (k1.ex HS.ex) (by omega) (by omega)).mono ?_); rintro e w' ⟨rfl, hx⟩; replace HS := HS.grow hx; clear hx)
          | (go_at_call 14; (with_reducible refine (szPacketS_gt _ l _ _ (k2.ex HS.ex) (by omega) (by omega) (by omega)).mono ?_); rintro e w' ⟨rfl, hx⟩; replace HS := HS.grow hx; clear hx)
          | ((with_reducible (show wpList _ _ _ (Oper.mk (some 2) (Op.box _ _) _ _ _ _ :: _) _ _)); refine wpList_box_st (o := ⟨some 2, .box _ _, _, _, _, _⟩) rfl _ _ rfl (v := .agg (List.toArray _)) rfl HS ?_; clear HS; intro w2 b2 hb2 HS; simp only [Value.cells] at HS)
          | ((with_reducible (show wpList _ _ _ (Oper.mk (some 2) (Op.box _ _) _ _ _ _ :: _) _ _)); refine wpList_box_st (o := ⟨some 2, .box _ _, _, _, _, _⟩) rfl _ _ rfl (v := .agg _) rfl HS ?_; clear HS; intro w2 b2 hb2 HS; simp only [Value.cells] at HS)
          | ((with_reducible (show wpList _ _ _ (Oper.mk (some 14) (Op.load _ _) _ _ _ _ :: _) _ _)); refine wpList_loadA_st (o := ⟨some 14, .load _ _, _, _, _, _⟩) rfl _ _ rfl rfl HS tk ag_laws_Filter lit rfl ?_)
          | ((with_reducible (show wpList _ _ _ (Oper.mk (some 24) (Op.load _ _) _ _ _ _ :: _) _ _)); refine wpList_loadA_st (o := ⟨some 24, .load _ _, _, _, _, _⟩) rfl _ _ rfl rfl HS tk ag_laws_Filter lit rfl ?_)
          | ((with_reducible (show wpList _ _ _ (Oper.mk (some 29) (Op.load _ _) _ _ _ _ :: _) _ _)); refine wpList_loadA_st (o := ⟨some 29, .load _ _, _, _, _, _⟩) rfl _ _ rfl rfl HS tk ag_laws_Filter lit rfl ?_)
          | ((with_reducible (show wpList _ _ _ (Oper.mk (some 7) (Op.alloc _) _ _ _ _ :: _) _ _)); refine wpList_alloc_st (o := ⟨some 7, .alloc _, _, _, _, _⟩) rfl _ rfl zc_impl_Filter HS ?_; clear HS; intro w7 b7 hb7 HS)
          | ((with_reducible (show wpList _ _ _ (Oper.mk none (Op.store _ (.tmp 7) _) _ _ _ _ :: _) _ _)); refine wpList_store_st (o := ⟨none, .store _ (.tmp 7) _, _, _, _, _⟩) rfl _ _ _ rfl rfl (v := .agg (List.toArray _)) rfl HS tk sz_impl_Filter vcs rfx rfx (by simp) ?_ rfl; clear HS; intro w9_3 hz9_3 HS; simp only [nicL, Value.cells, List.append_nil] at HS)
          | ((with_reducible (show wpList _ _ _ (Oper.mk none (Op.store _ (.tmp 7) _) _ _ _ _ :: _) _ _)); refine wpList_store_st (o := ⟨none, .store _ (.tmp 7) _, _, _, _, _⟩) rfl _ _ _ rfl rfl (v := .agg _) rfl HS tk sz_impl_Filter vcs rfx rfx (by simp) ?_ rfl; clear HS; intro w9_3 hz9_3 HS; simp only [nicL, Value.cells, List.append_nil] at HS)
          | ((with_reducible (show wpList _ _ _ (Oper.mk (some 33) (Op.load _ _) _ _ _ _ :: _) _ _)); refine wpList_loadA_st (o := ⟨some 33, .load _ _, _, _, _, _⟩) rfl _ _ rfl rfl HS tk ag_impl_Filter lit rfl ?_)
          | ((with_reducible (show wpList _ _ _ (Oper.mk (some 50) (Op.load _ _) _ _ _ _ :: _) _ _)); refine wpList_loadA_st (o := ⟨some 50, .load _ _, _, _, _, _⟩) rfl _ _ rfl rfl HS tk ag_impl_Filter lit rfl ?_)
          | ((with_reducible (show wpList _ _ _ (Oper.mk (some 75) (Op.load _ _) _ _ _ _ :: _) _ _)); refine wpList_loadA_st (o := ⟨some 75, .load _ _, _, _, _, _⟩) rfl _ _ rfl rfl HS tk ag_laws_Filter lit rfl ?_))
    go_ret
    exact ⟨rfl, HS.ex⟩
  case neg =>
  obtain ⟨ds, hr⟩ : ∃ ds, accF mac pr xs l = ds := ⟨_, rfl⟩
  have HR := hid hr
  have hdl : ds.length ≤ 1048576 := by rw [← hr]; have := accF_len mac pr xs l; omega
  clear hr
  have HS := St.start w
  go_enter Try.func4, Try.ntmps4
  go_wp2_with (first
        | (go_at_call 13; (with_reducible refine (szFilter_le mac pr _ xs _ _ (k1.ex HS.ex) (by omega) (by omega)).mono ?_); rintro e w' ⟨rfl, hx⟩; replace HS := HS.grow hx; clear hx)
        | (go_at_call 14; (with_reducible refine (szPacketS_le _ l _ _ (k2.ex HS.ex) (by omega) (by omega)).mono ?_); rintro e w' ⟨rfl, hx⟩; replace HS := HS.grow hx; clear hx)
        | (go_at_call 16; (with_reducible refine (toFilter_any mac pr _ xs _ (k1.ex HS.ex) (by omega)).mono ?_); rintro e w' ⟨A25, c25, rfl, ho, hx⟩; replace HS := HS.own ho hx; clear ho hx)
        | (go_at_call 17; (with_reducible refine (toPacketS_any _ l _ (k2.ex HS.ex) (by omega)).mono ?_); rintro e w' ⟨A27, c27, rfl, ho, hx⟩; replace HS := HS.own ho hx; clear ho hx)
        | (go_at_call 15; (with_reducible refine (acceptedPacketsS_any _ _ xs l mac pr _ (HS.holds tk) (HS.holds tk) (by omega)).mono ?_); rintro e w' ⟨A28, c28, rfl, ho, hx⟩; rw [HR.out] at ho ⊢; replace HS := HS.own ho hx; clear ho hx)
        | (go_at_call 11; (with_reducible refine (acceptedPackets_any _ _ xs l mac pr _ (HS.holds tk) (HS.holds tk) (by omega)).mono ?_); rintro e w' ⟨A35, c35, rfl, ho, hx⟩; rw [HR.out] at ho ⊢; replace HS := HS.own ho hx; clear ho hx)
        | (go_at_call 18; (with_reducible refine (eqPacketS_same _ _ _ _ (HS.holds tk) (HS.holds tk)).mono ?_); rintro e w' ⟨rfl, hx⟩; replace HS := HS.grow hx; clear hx)
        | ((with_reducible (show wpList _ _ _ (Oper.mk (some 2) (Op.box _ _) _ _ _ _ :: _) _ _)); refine wpList_box_st (o := ⟨some 2, .box _ _, _, _, _, _⟩) rfl _ _ rfl (v := .agg (List.toArray _)) rfl HS ?_; clear HS; intro w2 b2 hb2 HS; simp only [Value.cells] at HS)
        | ((with_reducible (show wpList _ _ _ (Oper.mk (some 2) (Op.box _ _) _ _ _ _ :: _) _ _)); refine wpList_box_st (o := ⟨some 2, .box _ _, _, _, _, _⟩) rfl _ _ rfl (v := .agg _) rfl HS ?_; clear HS; intro w2 b2 hb2 HS; simp only [Value.cells] at HS)
        | ((with_reducible (show wpList _ _ _ (Oper.mk (some 14) (Op.load _ _) _ _ _ _ :: _) _ _)); refine wpList_loadA_st (o := ⟨some 14, .load _ _, _, _, _, _⟩) rfl _ _ rfl rfl HS tk ag_laws_Filter lit rfl ?_)
        | ((with_reducible (show wpList _ _ _ (Oper.mk (some 24) (Op.load _ _) _ _ _ _ :: _) _ _)); refine wpList_loadA_st (o := ⟨some 24, .load _ _, _, _, _, _⟩) rfl _ _ rfl rfl HS tk ag_laws_Filter lit rfl ?_)
        | ((with_reducible (show wpList _ _ _ (Oper.mk (some 29) (Op.load _ _) _ _ _ _ :: _) _ _)); refine wpList_loadA_st (o := ⟨some 29, .load _ _, _, _, _, _⟩) rfl _ _ rfl rfl HS tk ag_laws_Filter lit rfl ?_)
        | ((with_reducible (show wpList _ _ _ (Oper.mk (some 7) (Op.alloc _) _ _ _ _ :: _) _ _)); refine wpList_alloc_st (o := ⟨some 7, .alloc _, _, _, _, _⟩) rfl _ rfl zc_impl_Filter HS ?_; clear HS; intro w7 b7 hb7 HS)
        | ((with_reducible (show wpList _ _ _ (Oper.mk none (Op.store _ (.tmp 7) _) _ _ _ _ :: _) _ _)); refine wpList_store_st (o := ⟨none, .store _ (.tmp 7) _, _, _, _, _⟩) rfl _ _ _ rfl rfl (v := .agg (List.toArray _)) rfl HS tk sz_impl_Filter vcs rfx rfx (by simp) ?_ rfl; clear HS; intro w9_3 hz9_3 HS; simp only [nicL, Value.cells, List.append_nil] at HS)
        | ((with_reducible (show wpList _ _ _ (Oper.mk none (Op.store _ (.tmp 7) _) _ _ _ _ :: _) _ _)); refine wpList_store_st (o := ⟨none, .store _ (.tmp 7) _, _, _, _, _⟩) rfl _ _ _ rfl rfl (v := .agg _) rfl HS tk sz_impl_Filter vcs rfx rfx (by simp) ?_ rfl; clear HS; intro w9_3 hz9_3 HS; simp only [nicL, Value.cells, List.append_nil] at HS)
        | ((with_reducible (show wpList _ _ _ (Oper.mk (some 33) (Op.load _ _) _ _ _ _ :: _) _ _)); refine wpList_loadA_st (o := ⟨some 33, .load _ _, _, _, _, _⟩) rfl _ _ rfl rfl HS tk ag_impl_Filter lit rfl ?_)
        | ((with_reducible (show wpList _ _ _ (Oper.mk (some 50) (Op.load _ _) _ _ _ _ :: _) _ _)); refine wpList_loadA_st (o := ⟨some 50, .load _ _, _, _, _, _⟩) rfl _ _ rfl rfl HS tk ag_impl_Filter lit rfl ?_)
        | ((with_reducible (show wpList _ _ _ (Oper.mk (some 75) (Op.load _ _) _ _ _ _ :: _) _ _)); refine wpList_loadA_st (o := ⟨some 75, .load _ _, _, _, _, _⟩) rfl _ _ rfl rfl HS tk ag_laws_Filter lit rfl ?_))
  refine wp_region_fl HS (take_all _) (.early 0 (.early 1 (.forced 2 1 (.forced 3 2 (.pure 4 .done))))) [] (by kernel_rfl) (by as_aux_lemma => kernel_rfl) ?_
  intro hne
  clear HS
  try go_simp
  repeat' (first
    | (with_reducible refine wpF_forced ?_)
    | ((with_reducible ((show wpF _ _ _ _ _ (.early 0 _) _ _))); (first | (refine wpF_skipE rfl rfl ?_; (try go_simp)) | (refine wpF_early rfl rfl ?_; intro K hK; (first | ((refine quiet_loadA_st  _ _ rfl rfl tk ag_impl_Filter lit rfl ?_); (try go_simp)) | go_big_quiet_op); (first | go_big_quiet_on | (refine ⟨_, fun _ => rfl, ?_⟩; go_big_quiet_on)))))
    | ((with_reducible ((show wpF _ _ _ _ _ (.early 1 _) _ _))); (first | (refine wpF_skipE rfl rfl ?_; (try go_simp)) | (refine wpF_early rfl rfl ?_; intro K hK; (first | ((refine quiet_loadA_st  _ _ rfl rfl tk ag_laws_Filter lit rfl ?_); (try go_simp)) | go_big_quiet_op); (first | go_big_quiet_on | (refine ⟨_, fun _ => rfl, ?_⟩; go_big_quiet_on)))))
    | ((with_reducible ((show OneF _ _ _ _ _ 2 1 _ _ _))); (first | (refine oneF_skip rfl rfl ?_; (try go_simp)) | (refine oneF_1 rfl rfl ?_; intro wq Fq HS K hK; go_simp; (first | (go_at_call 16; (with_reducible refine (toFilter_any mac pr _ xs _ (k1.ex HS.ex) (by omega)).mono ?_); rintro e w' ⟨A42, c42, rfl, ho, hx⟩; replace HS := HS.own ho hx; clear ho hx)); (try go_simp); refine hK _ _ _ ?_ (HS.take tk) ?_; (focus (exact stw HS)); clear HS hK K)))
    | ((with_reducible ((show OneF _ _ _ _ _ 3 2 _ _ _))); (first | (refine oneF_skip rfl rfl ?_; (try go_simp)) | (refine oneF_2 rfl rfl ?_; intro wq Fq HS K hK; go_simp; (first | (go_at_call 19; (with_reducible refine (eqFilter_same mac pr _ _ xs _ (HS.holds tk) (HS.holds tk)).mono ?_); rintro e w' ⟨rfl, hx⟩; replace HS := HS.grow hx; clear hx)); (try go_simp); refine hK _ _ _ (HS.take tk) ?_; clear HS hK K)))
    | ((with_reducible ((show wpF _ _ _ _ _ (.pure _ _) _ _))); (first | (refine wpF_skipP rfl rfl ?_; (try go_simp)) | (refine wpF_pure rfl rfl ?_; intro K hK; go_big_quiet_op; (first | go_big_quiet_on | (refine ⟨_, fun _ => rfl, ?_⟩; go_big_quiet_on)))))
    | (with_reducible refine wpF_done ?_))
  intro w9 HS
  go_wp2_with (first
        | (go_at_call 17; (with_reducible refine (toPacketS_any _ l _ (k2.ex HS.ex) (by omega)).mono ?_); rintro e w' ⟨A47, c47, rfl, ho, hx⟩; replace HS := HS.own ho hx; clear ho hx)
        | (go_at_call 18; (with_reducible refine (eqPacketS_same _ _ _ _ (HS.holds tk) (HS.holds tk)).mono ?_); rintro e w' ⟨rfl, hx⟩; replace HS := HS.grow hx; clear hx)
        | (go_at_call 20; (with_reducible refine (markFilter_st _ xs mac pr 1 _ (HS.take tk) (by omega) (by omega)).mono ?_); rintro e w' ⟨rfl, HS9⟩; clear HS; have HS := HS9; clear HS9)
        | (go_at_call 21; (with_reducible refine (markPacketS_st _ l (1 + xs.length) _ (HS.take tk) (by omega) (by omega) (by omega)).mono ?_); rintro e w' ⟨rfl, HS9⟩; clear HS; have HS := HS9; clear HS9)
        | ((with_reducible (show wpList _ _ _ (Oper.mk (some 2) (Op.box _ _) _ _ _ _ :: _) _ _)); refine wpList_box_st (o := ⟨some 2, .box _ _, _, _, _, _⟩) rfl _ _ rfl (v := .agg (List.toArray _)) rfl HS ?_; clear HS; intro w2 b2 hb2 HS; simp only [Value.cells] at HS)
        | ((with_reducible (show wpList _ _ _ (Oper.mk (some 2) (Op.box _ _) _ _ _ _ :: _) _ _)); refine wpList_box_st (o := ⟨some 2, .box _ _, _, _, _, _⟩) rfl _ _ rfl (v := .agg _) rfl HS ?_; clear HS; intro w2 b2 hb2 HS; simp only [Value.cells] at HS)
        | ((with_reducible (show wpList _ _ _ (Oper.mk (some 14) (Op.load _ _) _ _ _ _ :: _) _ _)); refine wpList_loadA_st (o := ⟨some 14, .load _ _, _, _, _, _⟩) rfl _ _ rfl rfl HS tk ag_laws_Filter lit rfl ?_)
        | ((with_reducible (show wpList _ _ _ (Oper.mk (some 24) (Op.load _ _) _ _ _ _ :: _) _ _)); refine wpList_loadA_st (o := ⟨some 24, .load _ _, _, _, _, _⟩) rfl _ _ rfl rfl HS tk ag_laws_Filter lit rfl ?_)
        | ((with_reducible (show wpList _ _ _ (Oper.mk (some 29) (Op.load _ _) _ _ _ _ :: _) _ _)); refine wpList_loadA_st (o := ⟨some 29, .load _ _, _, _, _, _⟩) rfl _ _ rfl rfl HS tk ag_laws_Filter lit rfl ?_)
        | ((with_reducible (show wpList _ _ _ (Oper.mk (some 7) (Op.alloc _) _ _ _ _ :: _) _ _)); refine wpList_alloc_st (o := ⟨some 7, .alloc _, _, _, _, _⟩) rfl _ rfl zc_impl_Filter HS ?_; clear HS; intro w7 b7 hb7 HS)
        | ((with_reducible (show wpList _ _ _ (Oper.mk none (Op.store _ (.tmp 7) _) _ _ _ _ :: _) _ _)); refine wpList_store_st (o := ⟨none, .store _ (.tmp 7) _, _, _, _, _⟩) rfl _ _ _ rfl rfl (v := .agg (List.toArray _)) rfl HS tk sz_impl_Filter vcs rfx rfx (by simp) ?_ rfl; clear HS; intro w9_3 hz9_3 HS; simp only [nicL, Value.cells, List.append_nil] at HS)
        | ((with_reducible (show wpList _ _ _ (Oper.mk none (Op.store _ (.tmp 7) _) _ _ _ _ :: _) _ _)); refine wpList_store_st (o := ⟨none, .store _ (.tmp 7) _, _, _, _, _⟩) rfl _ _ _ rfl rfl (v := .agg _) rfl HS tk sz_impl_Filter vcs rfx rfx (by simp) ?_ rfl; clear HS; intro w9_3 hz9_3 HS; simp only [nicL, Value.cells, List.append_nil] at HS)
        | ((with_reducible (show wpList _ _ _ (Oper.mk (some 33) (Op.load _ _) _ _ _ _ :: _) _ _)); refine wpList_loadA_st (o := ⟨some 33, .load _ _, _, _, _, _⟩) rfl _ _ rfl rfl HS tk ag_impl_Filter lit rfl ?_)
        | ((with_reducible (show wpList _ _ _ (Oper.mk (some 50) (Op.load _ _) _ _ _ _ :: _) _ _)); refine wpList_loadA_st (o := ⟨some 50, .load _ _, _, _, _, _⟩) rfl _ _ rfl rfl HS tk ag_impl_Filter lit rfl ?_)
        | ((with_reducible (show wpList _ _ _ (Oper.mk (some 75) (Op.load _ _) _ _ _ _ :: _) _ _)); refine wpList_loadA_st (o := ⟨some 75, .load _ _, _, _, _, _⟩) rfl _ _ rfl rfl HS tk ag_laws_Filter lit rfl ?_))
  go_wp2_with (first
        | (go_at_call 18; (with_reducible refine (eqPacketS_same _ _ _ _ (HS.holds tk) (HS.holds tk)).mono ?_); rintro e w' ⟨rfl, hx⟩; replace HS := HS.grow hx; clear hx)
        | (go_at_call 21; (with_reducible refine (markPacketS_st _ ds (1) _ (HS.take tk) (by omega) (by omega) (by omega)).mono ?_); rintro e w' ⟨rfl, HS9⟩; clear HS; have HS := HS9; clear HS9)
        | (go_at_call 22; (with_reducible refine (heldPacketS_any _ ds.length 1 _ (HS.holds tk) (by omega) (by omega) (by omega)).mono ?_); rintro e w' ⟨rfl, hx⟩; replace HS := HS.grow hx; clear hx)
        | (go_at_call 16; (with_reducible refine (toFilter_any mac pr _ xs _ (k1.ex HS.ex) (by omega)).mono ?_); rintro e w' ⟨A76, c76, rfl, ho, hx⟩; replace HS := HS.own ho hx; clear ho hx)
        | (go_at_call 17; (with_reducible refine (toPacketS_any _ l _ (k2.ex HS.ex) (by omega)).mono ?_); rintro e w' ⟨A78, c78, rfl, ho, hx⟩; replace HS := HS.own ho hx; clear ho hx)
        | (go_at_call 11; (with_reducible refine (acceptedPackets_any _ _ xs l mac pr _ (HS.holds tk) (HS.holds tk) (by omega)).mono ?_); rintro e w' ⟨A79, c79, rfl, ho, hx⟩; rw [HR.out] at ho ⊢; replace HS := HS.own ho hx; clear ho hx)
        | ((with_reducible (show wpList _ _ _ (Oper.mk (some 2) (Op.box _ _) _ _ _ _ :: _) _ _)); refine wpList_box_st (o := ⟨some 2, .box _ _, _, _, _, _⟩) rfl _ _ rfl (v := .agg (List.toArray _)) rfl HS ?_; clear HS; intro w2 b2 hb2 HS; simp only [Value.cells] at HS)
        | ((with_reducible (show wpList _ _ _ (Oper.mk (some 2) (Op.box _ _) _ _ _ _ :: _) _ _)); refine wpList_box_st (o := ⟨some 2, .box _ _, _, _, _, _⟩) rfl _ _ rfl (v := .agg _) rfl HS ?_; clear HS; intro w2 b2 hb2 HS; simp only [Value.cells] at HS)
        | ((with_reducible (show wpList _ _ _ (Oper.mk (some 14) (Op.load _ _) _ _ _ _ :: _) _ _)); refine wpList_loadA_st (o := ⟨some 14, .load _ _, _, _, _, _⟩) rfl _ _ rfl rfl HS tk ag_laws_Filter lit rfl ?_)
        | ((with_reducible (show wpList _ _ _ (Oper.mk (some 24) (Op.load _ _) _ _ _ _ :: _) _ _)); refine wpList_loadA_st (o := ⟨some 24, .load _ _, _, _, _, _⟩) rfl _ _ rfl rfl HS tk ag_laws_Filter lit rfl ?_)
        | ((with_reducible (show wpList _ _ _ (Oper.mk (some 29) (Op.load _ _) _ _ _ _ :: _) _ _)); refine wpList_loadA_st (o := ⟨some 29, .load _ _, _, _, _, _⟩) rfl _ _ rfl rfl HS tk ag_laws_Filter lit rfl ?_)
        | ((with_reducible (show wpList _ _ _ (Oper.mk (some 7) (Op.alloc _) _ _ _ _ :: _) _ _)); refine wpList_alloc_st (o := ⟨some 7, .alloc _, _, _, _, _⟩) rfl _ rfl zc_impl_Filter HS ?_; clear HS; intro w7 b7 hb7 HS)
        | ((with_reducible (show wpList _ _ _ (Oper.mk none (Op.store _ (.tmp 7) _) _ _ _ _ :: _) _ _)); refine wpList_store_st (o := ⟨none, .store _ (.tmp 7) _, _, _, _, _⟩) rfl _ _ _ rfl rfl (v := .agg (List.toArray _)) rfl HS tk sz_impl_Filter vcs rfx rfx (by simp) ?_ rfl; clear HS; intro w9_3 hz9_3 HS; simp only [nicL, Value.cells, List.append_nil] at HS)
        | ((with_reducible (show wpList _ _ _ (Oper.mk none (Op.store _ (.tmp 7) _) _ _ _ _ :: _) _ _)); refine wpList_store_st (o := ⟨none, .store _ (.tmp 7) _, _, _, _, _⟩) rfl _ _ _ rfl rfl (v := .agg _) rfl HS tk sz_impl_Filter vcs rfx rfx (by simp) ?_ rfl; clear HS; intro w9_3 hz9_3 HS; simp only [nicL, Value.cells, List.append_nil] at HS)
        | ((with_reducible (show wpList _ _ _ (Oper.mk (some 33) (Op.load _ _) _ _ _ _ :: _) _ _)); refine wpList_loadA_st (o := ⟨some 33, .load _ _, _, _, _, _⟩) rfl _ _ rfl rfl HS tk ag_impl_Filter lit rfl ?_)
        | ((with_reducible (show wpList _ _ _ (Oper.mk (some 50) (Op.load _ _) _ _ _ _ :: _) _ _)); refine wpList_loadA_st (o := ⟨some 50, .load _ _, _, _, _, _⟩) rfl _ _ rfl rfl HS tk ag_impl_Filter lit rfl ?_)
        | ((with_reducible (show wpList _ _ _ (Oper.mk (some 75) (Op.load _ _) _ _ _ _ :: _) _ _)); refine wpList_loadA_st (o := ⟨some 75, .load _ _, _, _, _, _⟩) rfl _ _ rfl rfl HS tk ag_laws_Filter lit rfl ?_))
  go_ret
  exact ⟨rfl, HS.ex⟩

end Go.Proofs.Ytihgekgkonacfaa
