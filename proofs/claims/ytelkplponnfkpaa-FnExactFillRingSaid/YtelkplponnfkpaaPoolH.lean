/- The laws' helpers over pools. -/
import Derived.Test.YtelkplponnfkpaaRows
import Derived.Test.YtelkplponnfkpaaPool
import Derived.Test.YtelkplponnfkpaaHeld
import Derived.Test.YtelkplponnfkpaaSepM
import Derived.Test.YtelkplponnfkpaaTk
namespace Go.Proofs.Ytelkplponnfkpaa
open Go.RowKit
set_option linter.unusedVariables false
set_option linter.unusedSimpArgs false

set_option maxRecDepth 100000 in
set_option maxHeartbeats 4000000 in
theorem szPool_le (v : Value) (fr : List Int) (b z c : Int) (left : Int) (w : World) (k1 : Holds w fr [v]) (hl : left ≤ 1048576) (hs : (fr.length : Int) ≤ left) :
    Calls Try.prog 42 #[.agg #[.int .i64 b, .int .i64 z, .int .i64 c, v], .int .i64 left] w fun e w' => e = .returned (.int .i64 (left - (fr.length : Int))) ∧ Ex w w' := by
  obtain ⟨AA, cap, rfl, z1, z2⟩ := k1.fl
  unfold maxLen at z2
  have HS := St.start w
  go_enter Try.func42, Try.ntmps42
  go_wp2_with (first
        | (go_at_call 92; (with_reducible refine (szIntS_le _ fr left _ (k1.ex HS.ex) hl hs).mono ?_); rintro e w' ⟨rfl, rfl⟩)
        | ((with_reducible (show wpList _ _ _ (Oper.mk (some 2) (Op.box _ _) _ _ _ _ :: _) _ _)); refine wpList_box_st (o := ⟨some 2, .box _ _, _, _, _, _⟩) rfl _ _ rfl (v := .agg (List.toArray _)) rfl HS ?_; clear HS; intro w2 b2 hb2 HS; simp only [Value.cells] at HS)
        | ((with_reducible (show wpList _ _ _ (Oper.mk (some 2) (Op.box _ _) _ _ _ _ :: _) _ _)); refine wpList_box_st (o := ⟨some 2, .box _ _, _, _, _, _⟩) rfl _ _ rfl (v := .agg _) rfl HS ?_; clear HS; intro w2 b2 hb2 HS; simp only [Value.cells] at HS)
        | ((with_reducible (show wpList _ _ _ (Oper.mk (some 6) (Op.load _ _) _ _ _ _ :: _) _ _)); refine wpList_loadS_st (o := ⟨some 6, .load _ _, _, _, _, _⟩) rfl _ _ rfl rfl HS tk sc_Sint rfx ?_))
  go_ret
  exact ⟨rfl, HS.ex⟩

set_option maxRecDepth 100000 in
set_option maxHeartbeats 4000000 in
theorem szPool_gt (v : Value) (fr : List Int) (b z c : Int) (left : Int) (w : World) (k1 : Holds w fr [v]) (hl : left ≤ 1048576) (h0 : 0 ≤ left) (hs : left < (fr.length : Int)) :
    Calls Try.prog 42 #[.agg #[.int .i64 b, .int .i64 z, .int .i64 c, v], .int .i64 left] w fun e w' => e = .returned (.int .i64 (-1)) ∧ Ex w w' := by
  obtain ⟨AA, cap, rfl, z1, z2⟩ := k1.fl
  unfold maxLen at z2
  have HS := St.start w
  go_enter Try.func42, Try.ntmps42
  go_wp2_with (first
        | (go_at_call 92; (with_reducible refine (szIntS_gt _ fr left _ (k1.ex HS.ex) h0 hl hs).mono ?_); rintro e w' ⟨rfl, rfl⟩)
        | ((with_reducible (show wpList _ _ _ (Oper.mk (some 2) (Op.box _ _) _ _ _ _ :: _) _ _)); refine wpList_box_st (o := ⟨some 2, .box _ _, _, _, _, _⟩) rfl _ _ rfl (v := .agg (List.toArray _)) rfl HS ?_; clear HS; intro w2 b2 hb2 HS; simp only [Value.cells] at HS)
        | ((with_reducible (show wpList _ _ _ (Oper.mk (some 2) (Op.box _ _) _ _ _ _ :: _) _ _)); refine wpList_box_st (o := ⟨some 2, .box _ _, _, _, _, _⟩) rfl _ _ rfl (v := .agg _) rfl HS ?_; clear HS; intro w2 b2 hb2 HS; simp only [Value.cells] at HS)
        | ((with_reducible (show wpList _ _ _ (Oper.mk (some 6) (Op.load _ _) _ _ _ _ :: _) _ _)); refine wpList_loadS_st (o := ⟨some 6, .load _ _, _, _, _, _⟩) rfl _ _ rfl rfl HS tk sc_Sint rfx ?_))
  go_ret
  exact ⟨rfl, HS.ex⟩

set_option maxRecDepth 100000 in
set_option maxHeartbeats 4000000 in
theorem toPool_any (v : Value) (fr : List Int) (b z c : Int) (w : World) (k1 : Holds w fr [v]) (hl : fr.length ≤ 1099511627776) :
    Calls Try.prog 44 #[.agg #[.int .i64 b, .int .i64 z, .int .i64 c, v]] w (RetPool w b z c fr) := by
  obtain ⟨AA, cap, rfl, z1, z2⟩ := k1.fl
  unfold maxLen at z2
  have HS := St.start w
  go_enter Try.func44, Try.ntmps44
  go_wp2_with (first
        | (go_at_call 99; (with_reducible refine (toIntS_any _ fr _ (k1.ex HS.ex) hl).mono ?_); rintro e w' ⟨A5, c5, rfl, ho, hx⟩; replace HS := HS.own ho hx; clear ho hx)
        | ((with_reducible (show wpList _ _ _ (Oper.mk (some 1) (Op.box _ _) _ _ _ _ :: _) _ _)); refine wpList_box_st (o := ⟨some 1, .box _ _, _, _, _, _⟩) rfl _ _ rfl (v := .agg (List.toArray _)) rfl HS ?_; clear HS; intro w1 b1 hb1 HS; simp only [Value.cells] at HS)
        | ((with_reducible (show wpList _ _ _ (Oper.mk (some 1) (Op.box _ _) _ _ _ _ :: _) _ _)); refine wpList_box_st (o := ⟨some 1, .box _ _, _, _, _, _⟩) rfl _ _ rfl (v := .agg _) rfl HS ?_; clear HS; intro w1 b1 hb1 HS; simp only [Value.cells] at HS)
        | ((with_reducible (show wpList _ _ _ (Oper.mk (some 2) (Op.alloc _) _ _ _ _ :: _) _ _)); refine wpList_alloc_st (o := ⟨some 2, .alloc _, _, _, _, _⟩) rfl _ rfl zc_impl_Pool HS ?_; clear HS; intro w2 b2 hb2 HS)
        | ((with_reducible (show wpList _ _ _ (Oper.mk (some 3) (Op.alloc _) _ _ _ _ :: _) _ _)); refine wpList_alloc_st (o := ⟨some 3, .alloc _, _, _, _, _⟩) rfl _ rfl zc_impl_Pool HS ?_; clear HS; intro w3 b3 hb3 HS)
        | ((with_reducible (show wpList _ _ _ (Oper.mk (some 5) (Op.load _ _) _ _ _ _ :: _) _ _)); refine wpList_loadS_st (o := ⟨some 5, .load _ _, _, _, _, _⟩) rfl _ _ rfl rfl HS tk sc_int rfx ?_)
        | ((with_reducible (show wpList _ _ _ (Oper.mk none (Op.store _ (.tmp 6) _) _ _ _ _ :: _) _ _)); refine wpList_store_st (o := ⟨none, .store _ (.tmp 6) _, _, _, _, _⟩) rfl _ _ _ rfl rfl (v := .int .i64 _) rfl HS tk sz_int vcs rfx rfx (by simp) ?_ rfl; clear HS; intro w2_3 hz2_3 HS; simp only [nicL, Value.cells, List.append_nil] at HS)
        | ((with_reducible (show wpList _ _ _ (Oper.mk (some 8) (Op.load _ _) _ _ _ _ :: _) _ _)); refine wpList_loadS_st (o := ⟨some 8, .load _ _, _, _, _, _⟩) rfl _ _ rfl rfl HS tk sc_int rfx ?_)
        | ((with_reducible (show wpList _ _ _ (Oper.mk none (Op.store _ (.tmp 9) _) _ _ _ _ :: _) _ _)); refine wpList_store_st (o := ⟨none, .store _ (.tmp 9) _, _, _, _, _⟩) rfl _ _ _ rfl rfl (v := .int .i64 _) rfl HS tk sz_int vcs rfx rfx (by simp) ?_ rfl; clear HS; intro w3_3 hz3_3 HS; simp only [nicL, Value.cells, List.append_nil] at HS)
        | ((with_reducible (show wpList _ _ _ (Oper.mk (some 11) (Op.load _ _) _ _ _ _ :: _) _ _)); refine wpList_loadS_st (o := ⟨some 11, .load _ _, _, _, _, _⟩) rfl _ _ rfl rfl HS tk sc_int rfx ?_)
        | ((with_reducible (show wpList _ _ _ (Oper.mk none (Op.store _ (.tmp 12) _) _ _ _ _ :: _) _ _)); refine wpList_store_st (o := ⟨none, .store _ (.tmp 12) _, _, _, _, _⟩) rfl _ _ _ rfl rfl (v := .int .i64 _) rfl HS tk sz_int vcs rfx rfx (by simp) ?_ rfl; clear HS; intro w4_3 hz4_3 HS; simp only [nicL, Value.cells, List.append_nil] at HS)
        | ((with_reducible (show wpList _ _ _ (Oper.mk (some 14) (Op.load _ _) _ _ _ _ :: _) _ _)); refine wpList_loadS_st (o := ⟨some 14, .load _ _, _, _, _, _⟩) rfl _ _ rfl rfl HS tk sc_Sint rfx ?_)
        | ((with_reducible (show wpList _ _ _ (Oper.mk none (Op.store _ (.tmp 16) _) _ _ _ _ :: _) _ _)); refine wpList_store_st (o := ⟨none, .store _ (.tmp 16) _, _, _, _, _⟩) rfl _ _ _ rfl rfl (v := .slice _ _ _) rfl HS tk sz_Sint vcs rfx rfx (by simp) ?_ rfl; clear HS; intro w5_4 hz5_4 HS; simp only [nicL, Value.cells, List.append_nil] at HS)
        | ((with_reducible (show wpList _ _ _ (Oper.mk (some 17) (Op.load _ _) _ _ _ _ :: _) _ _)); refine wpList_loadA_st (o := ⟨some 17, .load _ _, _, _, _, _⟩) rfl _ _ rfl rfl HS tk ag_impl_Pool lit rfl ?_)
        | ((with_reducible (show wpList _ _ _ (Oper.mk none (Op.store _ (.tmp 2) _) _ _ _ _ :: _) _ _)); refine wpList_store_st (o := ⟨none, .store _ (.tmp 2) _, _, _, _, _⟩) rfl _ _ _ rfl rfl (v := .agg (List.toArray _)) rfl HS tk sz_impl_Pool vcs rfx rfx (by simp) ?_ rfl; clear HS; intro w6_1 hz6_1 HS; simp only [nicL, Value.cells, List.append_nil] at HS)
        | ((with_reducible (show wpList _ _ _ (Oper.mk none (Op.store _ (.tmp 2) _) _ _ _ _ :: _) _ _)); refine wpList_store_st (o := ⟨none, .store _ (.tmp 2) _, _, _, _, _⟩) rfl _ _ _ rfl rfl (v := .agg _) rfl HS tk sz_impl_Pool vcs rfx rfx (by simp) ?_ rfl; clear HS; intro w6_1 hz6_1 HS; simp only [nicL, Value.cells, List.append_nil] at HS))
  refine bodyPost_retc rfx rfx HS tk ag_impl_Pool rfx rfx ?_
  exact retPool HS tk

set_option maxRecDepth 100000 in
set_option maxHeartbeats 4000000 in
theorem eqPool_same (v v2 : Value) (fr : List Int) (b z c : Int) (w : World) (k1 : Holds w fr [v]) (k2 : Holds w fr [v2]) :
    Calls Try.prog 46 #[.agg #[.int .i64 b, .int .i64 z, .int .i64 c, v], .agg #[.int .i64 b, .int .i64 z, .int .i64 c, v2]] w fun e w' => e = .returned (.bool true) ∧ Ex w w' := by
  obtain ⟨AA, cap, rfl, z1, z2⟩ := k1.fl
  unfold maxLen at z2
  obtain ⟨BB, cap2, rfl, y1, y2⟩ := k2.fl
  unfold maxLen at y2
  have e0 : (b != b) = false := by simp
  have e1 : (z != z) = false := by simp
  have e2 : (c != c) = false := by simp
  have HS := St.start w
  go_enter Try.func46, Try.ntmps46
  go_wp2_with (first
        | (go_at_call 106; (with_reducible refine (eqIntS_same _ _ fr _ (k1.ex HS.ex) (k2.ex HS.ex)).mono ?_); rintro e w' ⟨rfl, hx⟩; replace HS := HS.grow hx; clear hx)
        | ((with_reducible (show wpList _ _ _ (Oper.mk (some 2) (Op.box _ _) _ _ _ _ :: _) _ _)); refine wpList_box_st (o := ⟨some 2, .box _ _, _, _, _, _⟩) rfl _ _ rfl (v := .agg (List.toArray _)) rfl HS ?_; clear HS; intro w2 b2 hb2 HS; simp only [Value.cells] at HS)
        | ((with_reducible (show wpList _ _ _ (Oper.mk (some 2) (Op.box _ _) _ _ _ _ :: _) _ _)); refine wpList_box_st (o := ⟨some 2, .box _ _, _, _, _, _⟩) rfl _ _ rfl (v := .agg _) rfl HS ?_; clear HS; intro w2 b2 hb2 HS; simp only [Value.cells] at HS)
        | ((with_reducible (show wpList _ _ _ (Oper.mk (some 3) (Op.box _ _) _ _ _ _ :: _) _ _)); refine wpList_box_st (o := ⟨some 3, .box _ _, _, _, _, _⟩) rfl _ _ rfl (v := .agg (List.toArray _)) rfl HS ?_; clear HS; intro w3 b3 hb3 HS; simp only [Value.cells] at HS)
        | ((with_reducible (show wpList _ _ _ (Oper.mk (some 3) (Op.box _ _) _ _ _ _ :: _) _ _)); refine wpList_box_st (o := ⟨some 3, .box _ _, _, _, _, _⟩) rfl _ _ rfl (v := .agg _) rfl HS ?_; clear HS; intro w3 b3 hb3 HS; simp only [Value.cells] at HS)
        | ((with_reducible (show wpList _ _ _ (Oper.mk (some 6) (Op.load _ _) _ _ _ _ :: _) _ _)); refine wpList_loadS_st (o := ⟨some 6, .load _ _, _, _, _, _⟩) rfl _ _ rfl rfl HS tk sc_int rfx ?_)
        | ((with_reducible (show wpList _ _ _ (Oper.mk (some 8) (Op.load _ _) _ _ _ _ :: _) _ _)); refine wpList_loadS_st (o := ⟨some 8, .load _ _, _, _, _, _⟩) rfl _ _ rfl rfl HS tk sc_int rfx ?_)
        | ((with_reducible (show wpList _ _ _ (Oper.mk (some 11) (Op.load _ _) _ _ _ _ :: _) _ _)); refine wpList_loadS_st (o := ⟨some 11, .load _ _, _, _, _, _⟩) rfl _ _ rfl rfl HS tk sc_int rfx ?_)
        | ((with_reducible (show wpList _ _ _ (Oper.mk (some 13) (Op.load _ _) _ _ _ _ :: _) _ _)); refine wpList_loadS_st (o := ⟨some 13, .load _ _, _, _, _, _⟩) rfl _ _ rfl rfl HS tk sc_int rfx ?_)
        | ((with_reducible (show wpList _ _ _ (Oper.mk (some 16) (Op.load _ _) _ _ _ _ :: _) _ _)); refine wpList_loadS_st (o := ⟨some 16, .load _ _, _, _, _, _⟩) rfl _ _ rfl rfl HS tk sc_int rfx ?_)
        | ((with_reducible (show wpList _ _ _ (Oper.mk (some 18) (Op.load _ _) _ _ _ _ :: _) _ _)); refine wpList_loadS_st (o := ⟨some 18, .load _ _, _, _, _, _⟩) rfl _ _ rfl rfl HS tk sc_int rfx ?_)
        | ((with_reducible (show wpList _ _ _ (Oper.mk (some 21) (Op.load _ _) _ _ _ _ :: _) _ _)); refine wpList_loadS_st (o := ⟨some 21, .load _ _, _, _, _, _⟩) rfl _ _ rfl rfl HS tk sc_Sint rfx ?_)
        | ((with_reducible (show wpList _ _ _ (Oper.mk (some 23) (Op.load _ _) _ _ _ _ :: _) _ _)); refine wpList_loadS_st (o := ⟨some 23, .load _ _, _, _, _, _⟩) rfl _ _ rfl rfl HS tk sc_Sint rfx ?_))
  go_ret
  exact ⟨rfl, HS.ex⟩

theorem markIntS_st {w0 : World} {Js : List Asn} (v : Value) (xs : List Int) (q : Nat) (w : World) (HS : St w0 w (ownA xs [v] :: Js)) (h1 : q + xs.length ≤ 4611686018427387904) {k : Int} (hk : k = (q : Int)) :
    Calls Try.prog 107 #[v, .int .i64 k] w (fun e w' => e = .returned (.int .i64 ((q + xs.length : Nat) : Int)) ∧ St w0 w' (ownA (marks xs.length (q : Int)) [v] :: Js)) := by
  subst hk
  have := HS.marked (y := marks xs.length (q : Int)) (P := Try.prog) (f := 107) (args := #[v, .int .i64 (q : Int)]) (k := (q : Int) + xs.length) .head (fun bs t _ hf => markIntS_any v xs bs _ w t hf (by omega) (by omega))
  rwa [show ((q + xs.length : Nat) : Int) = (q : Int) + xs.length from by omega]

set_option maxRecDepth 100000 in
set_option maxHeartbeats 4000000 in
theorem markPool_st {w0 : World} {Js : List Asn} (v : Value) (fr : List Int) (b z c : Int) (q : Nat) (w : World) (HS : St w0 w (ownA fr [v] :: Js)) (h1 : q + fr.length ≤ 4611686018427387904) {k : Int} (hk : k = (q : Int)) :
    Calls Try.prog 47 #[.agg #[.int .i64 b, .int .i64 z, .int .i64 c, v], .int .i64 k] w (fun e w' => e = .returned (.int .i64 ((q + fr.length : Nat) : Int)) ∧ St w0 w' (ownA (marks fr.length (q : Int)) [v] :: Js)) := by
  subst hk
  obtain ⟨A1, c1, rfl⟩ := ownA.form HS .head
  go_enter Try.func47, Try.ntmps47
  go_wp2_with (first
        | (go_at_call 107; (with_reducible refine (markIntS_st _ fr q _ (HS.take tk) h1 rfl).mono ?_); rintro e w' ⟨rfl, HS9⟩; clear HS; have HS := HS9; clear HS9)
        | ((with_reducible (show wpList _ _ _ (Oper.mk (some 2) (Op.box _ _) _ _ _ _ :: _) _ _)); refine wpList_box_st (o := ⟨some 2, .box _ _, _, _, _, _⟩) rfl _ _ rfl (v := .agg (List.toArray _)) rfl HS ?_; clear HS; intro w2 b2 hb2 HS; simp only [Value.cells] at HS)
        | ((with_reducible (show wpList _ _ _ (Oper.mk (some 2) (Op.box _ _) _ _ _ _ :: _) _ _)); refine wpList_box_st (o := ⟨some 2, .box _ _, _, _, _, _⟩) rfl _ _ rfl (v := .agg _) rfl HS ?_; clear HS; intro w2 b2 hb2 HS; simp only [Value.cells] at HS)
        | ((with_reducible (show wpList _ _ _ (Oper.mk (some 6) (Op.load _ _) _ _ _ _ :: _) _ _)); refine wpList_loadS_st (o := ⟨some 6, .load _ _, _, _, _, _⟩) rfl _ _ rfl rfl HS tk sc_Sint rfx ?_))
  go_ret
  exact ⟨rfl, HS.arr (.cons tk (arr_drop _ _))⟩

set_option maxRecDepth 100000 in
set_option maxHeartbeats 4000000 in
theorem heldPool_any (v : Value) (b z c : Int) (n q : Nat) (k0 : Int) (w : World) (k1 : Holds w (marks n k0) [v]) (hk0 : k0 = (q : Int)) (h1 : q + n ≤ 4611686018427387904) {k : Int} (hk : k = (q : Int)) :
    Calls Try.prog 48 #[.agg #[.int .i64 b, .int .i64 z, .int .i64 c, v], .int .i64 k] w fun e w' => e = .returned (.int .i64 ((q + n : Nat) : Int)) ∧ Ex w w' := by
  subst hk
  subst hk0
  obtain ⟨AA, cap, rfl, z1, z2⟩ := k1.fl
  unfold maxLen at z2
  rw [marks_length] at *
  have HS := St.start w
  go_enter Try.func48, Try.ntmps48
  go_wp2_with (first
        | (go_at_call 108; (with_reducible refine (heldIntS_any _ n (q : Int) _ (k1.ex HS.ex) (by omega) (by omega)).mono ?_); rintro e w' ⟨rfl, rfl⟩)
        | ((with_reducible (show wpList _ _ _ (Oper.mk (some 2) (Op.box _ _) _ _ _ _ :: _) _ _)); refine wpList_box_st (o := ⟨some 2, .box _ _, _, _, _, _⟩) rfl _ _ rfl (v := .agg (List.toArray _)) rfl HS ?_; clear HS; intro w2 b2 hb2 HS; simp only [Value.cells] at HS)
        | ((with_reducible (show wpList _ _ _ (Oper.mk (some 2) (Op.box _ _) _ _ _ _ :: _) _ _)); refine wpList_box_st (o := ⟨some 2, .box _ _, _, _, _, _⟩) rfl _ _ rfl (v := .agg _) rfl HS ?_; clear HS; intro w2 b2 hb2 HS; simp only [Value.cells] at HS)
        | ((with_reducible (show wpList _ _ _ (Oper.mk (some 6) (Op.load _ _) _ _ _ _ :: _) _ _)); refine wpList_loadS_st (o := ⟨some 6, .load _ _, _, _, _, _⟩) rfl _ _ rfl rfl HS tk sc_Sint rfx ?_))
  go_ret
  exact ⟨ret_int (by omega), HS.ex⟩

end Go.Proofs.Ytelkplponnfkpaa
