/- HasCompletion: the program and the reference. -/
import Derived.Test.YtelkplponnfkpaaRows
import Derived.Test.YtelkplponnfkpaaCq2
import Derived.Test.YtelkplponnfkpaaRx4
import Derived.Test.YtelkplponnfkpaaRx4b
import Derived.Test.YtelkplponnfkpaaTk
namespace Go.Proofs.Ytelkplponnfkpaa
open Go.RowKit
set_option linter.unusedVariables false
set_option linter.unusedSimpArgs false

set_option maxRecDepth 100000 in
set_option maxHeartbeats 4000000 in
theorem hasCompletion_any (v1 v2 : Value) (l : List Mp) (ps : Pg) (d : Int) (b : Int) (s : Int) (h : Int) (t : Int) (db : Int) (dz : Int) (dc : Int) (eb : Int) (ez : Int) (ec : Int) (dm : Int) (sm : Int) (vl : Int) (tos : Int) (id : Int) (ttl : Int) (si : Int) (di : Int) (kind : Int) (sp : Int) (dp : Int) (seq : Int) (ack : Int) (fl : Int) (win : Int) (bd : ByteArray) (hz : Int) (hc : Int) (hold : Bool) (drop : Int) (hb : bd.size ≤ maxLen) (w : World) (k1 : Holds w l [v1]) (k2 : Holds w ps [v2]) (hd : i64ok d) :
    Calls Try.prog 34 #[v1, .agg #[v2], .int .i64 d, .agg #[.int .i64 b, .int .i64 s, .int .i64 h, .int .i64 t, .int .i64 db, .int .i64 dz, .int .i64 dc, .int .i64 eb, .int .i64 ez, .int .i64 ec, .int .i64 dm, .int .i64 sm, .int .i64 vl, .int .i64 tos, .int .i64 id, .int .i64 ttl, .int .i64 si, .int .i64 di, .int .i64 kind, .int .i64 sp, .int .i64 dp, .int .i64 seq, .int .i64 ack, .int .i64 fl, .int .i64 win, .string bd, .int .i64 hz, .int .i64 hc, .bool hold, .int .i64 drop]] w fun e w' => e = .returned (.bool ((rxOkB b s h t db dz dc eb ez ec dm sm vl tos id ttl si di kind sp dp seq ack fl win bd hz hc hold drop) && (nextF l ps d eb ez ec).2.2)) ∧ Ex w w' := by
  obtain ⟨AA, cap, rfl, z1, z2⟩ := k1.fl
  unfold maxLen at z2
  obtain ⟨BB, cap2, rfl, y1, y2⟩ := k2.fl
  unfold maxLen at y2
  replace hd := hid hd
  obtain ⟨⟨⟨x1, x2, x3, x4, x5⟩, c2, ok⟩, hr⟩ : ∃ r, r = nextF l ps d eb ez ec := ⟨_, rfl⟩
  have HR := hid hr
  cases hq : rxOkB b s h t db dz dc eb ez ec dm sm vl tos id ttl si di kind sp dp seq ack fl win bd hz hc hold drop
  case false =>
    have HM : Hid ((false && (nextF l ps d eb ez ec).2.2) = false) := hid rfl
    have HQ := hid hq
    clear hq hr
    have HS := St.start w
    go_enter Try.func34, Try.ntmps34
    go_wp2_with (first
          | (go_at_call 82; (with_reducible refine (rxOk_any b s h t db dz dc eb ez ec dm sm vl tos id ttl si di kind sp dp seq ack fl win bd hz hc hold drop hb _).mono ?_); rintro e w' ⟨rfl, hx⟩; rw [HQ.out]; replace HS := HS.grow hx; clear hx)
          | (go_at_call 14; (with_reducible refine (nextCompletion_any _ _ l ps d eb ez ec _ (k1.ex HS.ex) (k2.ex HS.ex) hd.out HR.out).mono ?_); rintro e w' ⟨rfl, hx⟩; replace HS := HS.grow hx; clear hx)
          | ((with_reducible (show wpList _ _ _ (Oper.mk (some 5) (Op.box _ _) _ _ _ _ :: _) _ _)); refine wpList_box_st (o := ⟨some 5, .box _ _, _, _, _, _⟩) rfl _ _ rfl (v := .agg (List.toArray _)) rfl HS ?_; clear HS; intro w5 b5 hb5 HS; simp only [Value.cells] at HS)
          | ((with_reducible (show wpList _ _ _ (Oper.mk (some 5) (Op.box _ _) _ _ _ _ :: _) _ _)); refine wpList_box_st (o := ⟨some 5, .box _ _, _, _, _, _⟩) rfl _ _ rfl (v := .agg _) rfl HS ?_; clear HS; intro w5 b5 hb5 HS; simp only [Value.cells] at HS)
          | ((with_reducible (show wpList _ _ _ (Oper.mk (some 7) (Op.box _ _) _ _ _ _ :: _) _ _)); refine wpList_box_st (o := ⟨some 7, .box _ _, _, _, _, _⟩) rfl _ _ rfl (v := .agg (List.toArray _)) rfl HS ?_; clear HS; intro w7 b7 hb7 HS; simp only [Value.cells] at HS)
          | ((with_reducible (show wpList _ _ _ (Oper.mk (some 7) (Op.box _ _) _ _ _ _ :: _) _ _)); refine wpList_box_st (o := ⟨some 7, .box _ _, _, _, _, _⟩) rfl _ _ rfl (v := .agg _) rfl HS ?_; clear HS; intro w7 b7 hb7 HS; simp only [Value.cells] at HS)
          | ((with_reducible (show wpList _ _ _ (Oper.mk (some 12) (Op.load _ _) _ _ _ _ :: _) _ _)); refine wpList_loadA_st (o := ⟨some 12, .load _ _, _, _, _, _⟩) rfl _ _ rfl rfl HS tk ag_impl_RxQueue lit rfl ?_)
          | ((with_reducible (show wpList _ _ _ (Oper.mk (some 17) (Op.load _ _) _ _ _ _ :: _) _ _)); refine wpList_loadA_st (o := ⟨some 17, .load _ _, _, _, _, _⟩) rfl _ _ rfl rfl HS tk ag_impl_Memory lit rfl ?_)
          | ((with_reducible (show wpList _ _ _ (Oper.mk (some 20) (Op.load _ _) _ _ _ _ :: _) _ _)); refine wpList_loadA_st (o := ⟨some 20, .load _ _, _, _, _, _⟩) rfl _ _ rfl rfl HS tk ag_impl_CompletionQueue lit rfl ?_)
          | ((with_reducible (show wpList _ _ _ (Oper.mk (some 9) (Op.alloc _) _ _ _ _ :: _) _ _)); refine wpList_alloc_st (o := ⟨some 9, .alloc _, _, _, _, _⟩) rfl _ rfl zc_impl_Completion HS ?_; clear HS; intro w9 b9 hb9 HS)
          | ((with_reducible (show wpList _ _ _ (Oper.mk (some 10) (Op.alloc _) _ _ _ _ :: _) _ _)); refine wpList_alloc_st (o := ⟨some 10, .alloc _, _, _, _, _⟩) rfl _ rfl zc_impl_CompletionQueue HS ?_; clear HS; intro w10 b10 hb10 HS)
          | ((with_reducible (show wpList _ _ _ (Oper.mk none (Op.store _ (.tmp 9) _) _ _ _ _ :: _) _ _)); refine wpList_store_st (o := ⟨none, .store _ (.tmp 9) _, _, _, _, _⟩) rfl _ _ _ rfl rfl (v := .agg (List.toArray _)) rfl HS tk sz_impl_Completion vcs rfx rfx (by simp) ?_ rfl; clear HS; intro w3_12 hz3_12 HS; simp only [nicL, Value.cells, List.append_nil] at HS)
          | ((with_reducible (show wpList _ _ _ (Oper.mk none (Op.store _ (.tmp 9) _) _ _ _ _ :: _) _ _)); refine wpList_store_st (o := ⟨none, .store _ (.tmp 9) _, _, _, _, _⟩) rfl _ _ _ rfl rfl (v := .agg _) rfl HS tk sz_impl_Completion vcs rfx rfx (by simp) ?_ rfl; clear HS; intro w3_12 hz3_12 HS; simp only [nicL, Value.cells, List.append_nil] at HS)
          | ((with_reducible (show wpList _ _ _ (Oper.mk none (Op.store _ (.tmp 10) _) _ _ _ _ :: _) _ _)); refine wpList_store_st (o := ⟨none, .store _ (.tmp 10) _, _, _, _, _⟩) rfl _ _ _ rfl rfl (v := .agg (List.toArray _)) rfl HS tk sz_impl_CompletionQueue vcs rfx rfx (by simp) ?_ rfl; clear HS; intro w3_13 hz3_13 HS; simp only [nicL, Value.cells, List.append_nil] at HS)
          | ((with_reducible (show wpList _ _ _ (Oper.mk none (Op.store _ (.tmp 10) _) _ _ _ _ :: _) _ _)); refine wpList_store_st (o := ⟨none, .store _ (.tmp 10) _, _, _, _, _⟩) rfl _ _ _ rfl rfl (v := .agg _) rfl HS tk sz_impl_CompletionQueue vcs rfx rfx (by simp) ?_ rfl; clear HS; intro w3_13 hz3_13 HS; simp only [nicL, Value.cells, List.append_nil] at HS))
    go_ret
    exact ⟨ret_bool HM.out.symm, HS.ex⟩
  case true =>
    have HM : Hid ((true && (nextF l ps d eb ez ec).2.2) = ok) := hid (by rw [← hr]; rfl)
    have HQ := hid hq
    clear hq hr
    have HS := St.start w
    go_enter Try.func34, Try.ntmps34
    go_wp2_with (first
          | (go_at_call 82; (with_reducible refine (rxOk_any b s h t db dz dc eb ez ec dm sm vl tos id ttl si di kind sp dp seq ack fl win bd hz hc hold drop hb _).mono ?_); rintro e w' ⟨rfl, hx⟩; rw [HQ.out]; replace HS := HS.grow hx; clear hx)
          | (go_at_call 14; (with_reducible refine (nextCompletion_any _ _ l ps d eb ez ec _ (k1.ex HS.ex) (k2.ex HS.ex) hd.out HR.out).mono ?_); rintro e w' ⟨rfl, hx⟩; replace HS := HS.grow hx; clear hx)
          | ((with_reducible (show wpList _ _ _ (Oper.mk (some 5) (Op.box _ _) _ _ _ _ :: _) _ _)); refine wpList_box_st (o := ⟨some 5, .box _ _, _, _, _, _⟩) rfl _ _ rfl (v := .agg (List.toArray _)) rfl HS ?_; clear HS; intro w5 b5 hb5 HS; simp only [Value.cells] at HS)
          | ((with_reducible (show wpList _ _ _ (Oper.mk (some 5) (Op.box _ _) _ _ _ _ :: _) _ _)); refine wpList_box_st (o := ⟨some 5, .box _ _, _, _, _, _⟩) rfl _ _ rfl (v := .agg _) rfl HS ?_; clear HS; intro w5 b5 hb5 HS; simp only [Value.cells] at HS)
          | ((with_reducible (show wpList _ _ _ (Oper.mk (some 7) (Op.box _ _) _ _ _ _ :: _) _ _)); refine wpList_box_st (o := ⟨some 7, .box _ _, _, _, _, _⟩) rfl _ _ rfl (v := .agg (List.toArray _)) rfl HS ?_; clear HS; intro w7 b7 hb7 HS; simp only [Value.cells] at HS)
          | ((with_reducible (show wpList _ _ _ (Oper.mk (some 7) (Op.box _ _) _ _ _ _ :: _) _ _)); refine wpList_box_st (o := ⟨some 7, .box _ _, _, _, _, _⟩) rfl _ _ rfl (v := .agg _) rfl HS ?_; clear HS; intro w7 b7 hb7 HS; simp only [Value.cells] at HS)
          | ((with_reducible (show wpList _ _ _ (Oper.mk (some 12) (Op.load _ _) _ _ _ _ :: _) _ _)); refine wpList_loadA_st (o := ⟨some 12, .load _ _, _, _, _, _⟩) rfl _ _ rfl rfl HS tk ag_impl_RxQueue lit rfl ?_)
          | ((with_reducible (show wpList _ _ _ (Oper.mk (some 17) (Op.load _ _) _ _ _ _ :: _) _ _)); refine wpList_loadA_st (o := ⟨some 17, .load _ _, _, _, _, _⟩) rfl _ _ rfl rfl HS tk ag_impl_Memory lit rfl ?_)
          | ((with_reducible (show wpList _ _ _ (Oper.mk (some 20) (Op.load _ _) _ _ _ _ :: _) _ _)); refine wpList_loadA_st (o := ⟨some 20, .load _ _, _, _, _, _⟩) rfl _ _ rfl rfl HS tk ag_impl_CompletionQueue lit rfl ?_)
          | ((with_reducible (show wpList _ _ _ (Oper.mk (some 9) (Op.alloc _) _ _ _ _ :: _) _ _)); refine wpList_alloc_st (o := ⟨some 9, .alloc _, _, _, _, _⟩) rfl _ rfl zc_impl_Completion HS ?_; clear HS; intro w9 b9 hb9 HS)
          | ((with_reducible (show wpList _ _ _ (Oper.mk (some 10) (Op.alloc _) _ _ _ _ :: _) _ _)); refine wpList_alloc_st (o := ⟨some 10, .alloc _, _, _, _, _⟩) rfl _ rfl zc_impl_CompletionQueue HS ?_; clear HS; intro w10 b10 hb10 HS)
          | ((with_reducible (show wpList _ _ _ (Oper.mk none (Op.store _ (.tmp 9) _) _ _ _ _ :: _) _ _)); refine wpList_store_st (o := ⟨none, .store _ (.tmp 9) _, _, _, _, _⟩) rfl _ _ _ rfl rfl (v := .agg (List.toArray _)) rfl HS tk sz_impl_Completion vcs rfx rfx (by simp) ?_ rfl; clear HS; intro w3_12 hz3_12 HS; simp only [nicL, Value.cells, List.append_nil] at HS)
          | ((with_reducible (show wpList _ _ _ (Oper.mk none (Op.store _ (.tmp 9) _) _ _ _ _ :: _) _ _)); refine wpList_store_st (o := ⟨none, .store _ (.tmp 9) _, _, _, _, _⟩) rfl _ _ _ rfl rfl (v := .agg _) rfl HS tk sz_impl_Completion vcs rfx rfx (by simp) ?_ rfl; clear HS; intro w3_12 hz3_12 HS; simp only [nicL, Value.cells, List.append_nil] at HS)
          | ((with_reducible (show wpList _ _ _ (Oper.mk none (Op.store _ (.tmp 10) _) _ _ _ _ :: _) _ _)); refine wpList_store_st (o := ⟨none, .store _ (.tmp 10) _, _, _, _, _⟩) rfl _ _ _ rfl rfl (v := .agg (List.toArray _)) rfl HS tk sz_impl_CompletionQueue vcs rfx rfx (by simp) ?_ rfl; clear HS; intro w3_13 hz3_13 HS; simp only [nicL, Value.cells, List.append_nil] at HS)
          | ((with_reducible (show wpList _ _ _ (Oper.mk none (Op.store _ (.tmp 10) _) _ _ _ _ :: _) _ _)); refine wpList_store_st (o := ⟨none, .store _ (.tmp 10) _, _, _, _, _⟩) rfl _ _ _ rfl rfl (v := .agg _) rfl HS tk sz_impl_CompletionQueue vcs rfx rfx (by simp) ?_ rfl; clear HS; intro w3_13 hz3_13 HS; simp only [nicL, Value.cells, List.append_nil] at HS))
    go_ret
    exact ⟨ret_bool HM.out.symm, HS.ex⟩

set_option maxRecDepth 100000 in
set_option maxHeartbeats 4000000 in
theorem hasCompletionS_any (v1 v2 : Value) (l : List Mp) (ps : Pg) (d : Int) (b : Int) (s : Int) (h : Int) (t : Int) (db : Int) (dz : Int) (dc : Int) (eb : Int) (ez : Int) (ec : Int) (dm : Int) (sm : Int) (vl : Int) (tos : Int) (id : Int) (ttl : Int) (si : Int) (di : Int) (kind : Int) (sp : Int) (dp : Int) (seq : Int) (ack : Int) (fl : Int) (win : Int) (bd : ByteArray) (hz : Int) (hc : Int) (hold : Bool) (drop : Int) (hb : bd.size ≤ maxLen) (w : World) (k1 : Holds w l [v1]) (k2 : Holds w ps [v2]) (hd : i64ok d) :
    Calls Try.prog 32 #[v1, .agg #[v2], .int .i64 d, .agg #[.int .i64 b, .int .i64 s, .int .i64 h, .int .i64 t, .int .i64 db, .int .i64 dz, .int .i64 dc, .int .i64 eb, .int .i64 ez, .int .i64 ec, .int .i64 dm, .int .i64 sm, .int .i64 vl, .int .i64 tos, .int .i64 id, .int .i64 ttl, .int .i64 si, .int .i64 di, .int .i64 kind, .int .i64 sp, .int .i64 dp, .int .i64 seq, .int .i64 ack, .int .i64 fl, .int .i64 win, .string bd, .int .i64 hz, .int .i64 hc, .bool hold, .int .i64 drop]] w fun e w' => e = .returned (.bool ((rxOkB b s h t db dz dc eb ez ec dm sm vl tos id ttl si di kind sp dp seq ack fl win bd hz hc hold drop) && (nextF l ps d eb ez ec).2.2)) ∧ Ex w w' := by
  obtain ⟨AA, cap, rfl, z1, z2⟩ := k1.fl
  unfold maxLen at z2
  obtain ⟨BB, cap2, rfl, y1, y2⟩ := k2.fl
  unfold maxLen at y2
  replace hd := hid hd
  obtain ⟨⟨⟨x1, x2, x3, x4, x5⟩, c2, ok⟩, hr⟩ : ∃ r, r = nextF l ps d eb ez ec := ⟨_, rfl⟩
  have HR := hid hr
  cases hq : rxOkB b s h t db dz dc eb ez ec dm sm vl tos id ttl si di kind sp dp seq ack fl win bd hz hc hold drop
  case false =>
    have HM : Hid ((false && (nextF l ps d eb ez ec).2.2) = false) := hid rfl
    have HQ := hid hq
    clear hq hr
    have HS := St.start w
    go_enter Try.func32, Try.ntmps32
    go_wp2_with (first
          | (go_at_call 80; (with_reducible refine (rxOkS_any b s h t db dz dc eb ez ec dm sm vl tos id ttl si di kind sp dp seq ack fl win bd hz hc hold drop hb _).mono ?_); rintro e w' ⟨rfl, hx⟩; rw [HQ.out]; replace HS := HS.grow hx; clear hx)
          | (go_at_call 18; (with_reducible refine (nextCompletionS_any _ _ l ps d eb ez ec _ (k1.ex HS.ex) (k2.ex HS.ex) hd.out HR.out).mono ?_); rintro e w' ⟨rfl, hx⟩; replace HS := HS.grow hx; clear hx)
          | ((with_reducible (show wpList _ _ _ (Oper.mk (some 5) (Op.box _ _) _ _ _ _ :: _) _ _)); refine wpList_box_st (o := ⟨some 5, .box _ _, _, _, _, _⟩) rfl _ _ rfl (v := .agg (List.toArray _)) rfl HS ?_; clear HS; intro w5 b5 hb5 HS; simp only [Value.cells] at HS)
          | ((with_reducible (show wpList _ _ _ (Oper.mk (some 5) (Op.box _ _) _ _ _ _ :: _) _ _)); refine wpList_box_st (o := ⟨some 5, .box _ _, _, _, _, _⟩) rfl _ _ rfl (v := .agg _) rfl HS ?_; clear HS; intro w5 b5 hb5 HS; simp only [Value.cells] at HS)
          | ((with_reducible (show wpList _ _ _ (Oper.mk (some 7) (Op.box _ _) _ _ _ _ :: _) _ _)); refine wpList_box_st (o := ⟨some 7, .box _ _, _, _, _, _⟩) rfl _ _ rfl (v := .agg (List.toArray _)) rfl HS ?_; clear HS; intro w7 b7 hb7 HS; simp only [Value.cells] at HS)
          | ((with_reducible (show wpList _ _ _ (Oper.mk (some 7) (Op.box _ _) _ _ _ _ :: _) _ _)); refine wpList_box_st (o := ⟨some 7, .box _ _, _, _, _, _⟩) rfl _ _ rfl (v := .agg _) rfl HS ?_; clear HS; intro w7 b7 hb7 HS; simp only [Value.cells] at HS)
          | ((with_reducible (show wpList _ _ _ (Oper.mk (some 14) (Op.load _ _) _ _ _ _ :: _) _ _)); refine wpList_loadA_st (o := ⟨some 14, .load _ _, _, _, _, _⟩) rfl _ _ rfl rfl HS tk ag_impl_Memory lit rfl ?_)
          | ((with_reducible (show wpList _ _ _ (Oper.mk (some 17) (Op.load _ _) _ _ _ _ :: _) _ _)); refine wpList_loadA_st (o := ⟨some 17, .load _ _, _, _, _, _⟩) rfl _ _ rfl rfl HS tk ag_impl_CompletionQueue lit rfl ?_)
          | ((with_reducible (show wpList _ _ _ (Oper.mk (some 9) (Op.alloc _) _ _ _ _ :: _) _ _)); refine wpList_alloc_st (o := ⟨some 9, .alloc _, _, _, _, _⟩) rfl _ rfl zc_impl_Completion HS ?_; clear HS; intro w9 b9 hb9 HS)
          | ((with_reducible (show wpList _ _ _ (Oper.mk (some 10) (Op.alloc _) _ _ _ _ :: _) _ _)); refine wpList_alloc_st (o := ⟨some 10, .alloc _, _, _, _, _⟩) rfl _ rfl zc_impl_CompletionQueue HS ?_; clear HS; intro w10 b10 hb10 HS)
          | ((with_reducible (show wpList _ _ _ (Oper.mk none (Op.store _ (.tmp 9) _) _ _ _ _ :: _) _ _)); refine wpList_store_st (o := ⟨none, .store _ (.tmp 9) _, _, _, _, _⟩) rfl _ _ _ rfl rfl (v := .agg (List.toArray _)) rfl HS tk sz_impl_Completion vcs rfx rfx (by simp) ?_ rfl; clear HS; intro w1_12 hz1_12 HS; simp only [nicL, Value.cells, List.append_nil] at HS)
          | ((with_reducible (show wpList _ _ _ (Oper.mk none (Op.store _ (.tmp 9) _) _ _ _ _ :: _) _ _)); refine wpList_store_st (o := ⟨none, .store _ (.tmp 9) _, _, _, _, _⟩) rfl _ _ _ rfl rfl (v := .agg _) rfl HS tk sz_impl_Completion vcs rfx rfx (by simp) ?_ rfl; clear HS; intro w1_12 hz1_12 HS; simp only [nicL, Value.cells, List.append_nil] at HS)
          | ((with_reducible (show wpList _ _ _ (Oper.mk none (Op.store _ (.tmp 10) _) _ _ _ _ :: _) _ _)); refine wpList_store_st (o := ⟨none, .store _ (.tmp 10) _, _, _, _, _⟩) rfl _ _ _ rfl rfl (v := .agg (List.toArray _)) rfl HS tk sz_impl_CompletionQueue vcs rfx rfx (by simp) ?_ rfl; clear HS; intro w1_13 hz1_13 HS; simp only [nicL, Value.cells, List.append_nil] at HS)
          | ((with_reducible (show wpList _ _ _ (Oper.mk none (Op.store _ (.tmp 10) _) _ _ _ _ :: _) _ _)); refine wpList_store_st (o := ⟨none, .store _ (.tmp 10) _, _, _, _, _⟩) rfl _ _ _ rfl rfl (v := .agg _) rfl HS tk sz_impl_CompletionQueue vcs rfx rfx (by simp) ?_ rfl; clear HS; intro w1_13 hz1_13 HS; simp only [nicL, Value.cells, List.append_nil] at HS)
          | ((with_reducible (show wpList _ _ _ (Oper.mk (some 22) (Op.load _ _) _ _ _ _ :: _) _ _)); refine wpList_loadA_st (o := ⟨some 22, .load _ _, _, _, _, _⟩) rfl _ _ rfl rfl HS tk ag_impl_RxQueue lit rfl ?_))
    go_ret
    exact ⟨ret_bool HM.out.symm, HS.ex⟩
  case true =>
    have HM : Hid ((true && (nextF l ps d eb ez ec).2.2) = ok) := hid (by rw [← hr]; rfl)
    have HQ := hid hq
    clear hq hr
    have HS := St.start w
    go_enter Try.func32, Try.ntmps32
    go_wp2_with (first
          | (go_at_call 80; (with_reducible refine (rxOkS_any b s h t db dz dc eb ez ec dm sm vl tos id ttl si di kind sp dp seq ack fl win bd hz hc hold drop hb _).mono ?_); rintro e w' ⟨rfl, hx⟩; rw [HQ.out]; replace HS := HS.grow hx; clear hx)
          | (go_at_call 18; (with_reducible refine (nextCompletionS_any _ _ l ps d eb ez ec _ (k1.ex HS.ex) (k2.ex HS.ex) hd.out HR.out).mono ?_); rintro e w' ⟨rfl, hx⟩; replace HS := HS.grow hx; clear hx)
          | ((with_reducible (show wpList _ _ _ (Oper.mk (some 5) (Op.box _ _) _ _ _ _ :: _) _ _)); refine wpList_box_st (o := ⟨some 5, .box _ _, _, _, _, _⟩) rfl _ _ rfl (v := .agg (List.toArray _)) rfl HS ?_; clear HS; intro w5 b5 hb5 HS; simp only [Value.cells] at HS)
          | ((with_reducible (show wpList _ _ _ (Oper.mk (some 5) (Op.box _ _) _ _ _ _ :: _) _ _)); refine wpList_box_st (o := ⟨some 5, .box _ _, _, _, _, _⟩) rfl _ _ rfl (v := .agg _) rfl HS ?_; clear HS; intro w5 b5 hb5 HS; simp only [Value.cells] at HS)
          | ((with_reducible (show wpList _ _ _ (Oper.mk (some 7) (Op.box _ _) _ _ _ _ :: _) _ _)); refine wpList_box_st (o := ⟨some 7, .box _ _, _, _, _, _⟩) rfl _ _ rfl (v := .agg (List.toArray _)) rfl HS ?_; clear HS; intro w7 b7 hb7 HS; simp only [Value.cells] at HS)
          | ((with_reducible (show wpList _ _ _ (Oper.mk (some 7) (Op.box _ _) _ _ _ _ :: _) _ _)); refine wpList_box_st (o := ⟨some 7, .box _ _, _, _, _, _⟩) rfl _ _ rfl (v := .agg _) rfl HS ?_; clear HS; intro w7 b7 hb7 HS; simp only [Value.cells] at HS)
          | ((with_reducible (show wpList _ _ _ (Oper.mk (some 14) (Op.load _ _) _ _ _ _ :: _) _ _)); refine wpList_loadA_st (o := ⟨some 14, .load _ _, _, _, _, _⟩) rfl _ _ rfl rfl HS tk ag_impl_Memory lit rfl ?_)
          | ((with_reducible (show wpList _ _ _ (Oper.mk (some 17) (Op.load _ _) _ _ _ _ :: _) _ _)); refine wpList_loadA_st (o := ⟨some 17, .load _ _, _, _, _, _⟩) rfl _ _ rfl rfl HS tk ag_impl_CompletionQueue lit rfl ?_)
          | ((with_reducible (show wpList _ _ _ (Oper.mk (some 9) (Op.alloc _) _ _ _ _ :: _) _ _)); refine wpList_alloc_st (o := ⟨some 9, .alloc _, _, _, _, _⟩) rfl _ rfl zc_impl_Completion HS ?_; clear HS; intro w9 b9 hb9 HS)
          | ((with_reducible (show wpList _ _ _ (Oper.mk (some 10) (Op.alloc _) _ _ _ _ :: _) _ _)); refine wpList_alloc_st (o := ⟨some 10, .alloc _, _, _, _, _⟩) rfl _ rfl zc_impl_CompletionQueue HS ?_; clear HS; intro w10 b10 hb10 HS)
          | ((with_reducible (show wpList _ _ _ (Oper.mk none (Op.store _ (.tmp 9) _) _ _ _ _ :: _) _ _)); refine wpList_store_st (o := ⟨none, .store _ (.tmp 9) _, _, _, _, _⟩) rfl _ _ _ rfl rfl (v := .agg (List.toArray _)) rfl HS tk sz_impl_Completion vcs rfx rfx (by simp) ?_ rfl; clear HS; intro w1_12 hz1_12 HS; simp only [nicL, Value.cells, List.append_nil] at HS)
          | ((with_reducible (show wpList _ _ _ (Oper.mk none (Op.store _ (.tmp 9) _) _ _ _ _ :: _) _ _)); refine wpList_store_st (o := ⟨none, .store _ (.tmp 9) _, _, _, _, _⟩) rfl _ _ _ rfl rfl (v := .agg _) rfl HS tk sz_impl_Completion vcs rfx rfx (by simp) ?_ rfl; clear HS; intro w1_12 hz1_12 HS; simp only [nicL, Value.cells, List.append_nil] at HS)
          | ((with_reducible (show wpList _ _ _ (Oper.mk none (Op.store _ (.tmp 10) _) _ _ _ _ :: _) _ _)); refine wpList_store_st (o := ⟨none, .store _ (.tmp 10) _, _, _, _, _⟩) rfl _ _ _ rfl rfl (v := .agg (List.toArray _)) rfl HS tk sz_impl_CompletionQueue vcs rfx rfx (by simp) ?_ rfl; clear HS; intro w1_13 hz1_13 HS; simp only [nicL, Value.cells, List.append_nil] at HS)
          | ((with_reducible (show wpList _ _ _ (Oper.mk none (Op.store _ (.tmp 10) _) _ _ _ _ :: _) _ _)); refine wpList_store_st (o := ⟨none, .store _ (.tmp 10) _, _, _, _, _⟩) rfl _ _ _ rfl rfl (v := .agg _) rfl HS tk sz_impl_CompletionQueue vcs rfx rfx (by simp) ?_ rfl; clear HS; intro w1_13 hz1_13 HS; simp only [nicL, Value.cells, List.append_nil] at HS)
          | ((with_reducible (show wpList _ _ _ (Oper.mk (some 22) (Op.load _ _) _ _ _ _ :: _) _ _)); refine wpList_loadA_st (o := ⟨some 22, .load _ _, _, _, _, _⟩) rfl _ _ rfl rfl HS tk ag_impl_RxQueue lit rfl ?_))
    go_ret
    exact ⟨ret_bool HM.out.symm, HS.ex⟩

end Go.Proofs.Ytelkplponnfkpaa
