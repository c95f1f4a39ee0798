/- Writing to device addresses: the program. -/
import Derived.Test.YtelkplponnfkpaaRows
import Derived.Test.YtelkplponnfkpaaMemE
import Derived.Test.YtelkplponnfkpaaTk
namespace Go.Proofs.Ytelkplponnfkpaa
open Go.RowKit
set_option linter.unusedVariables false
set_option linter.unusedSimpArgs false

def dmaWF (l : List Mp) (ps : Pg) (d a : Int) (s : ByteArray) (wt : Bool) : Pg × Bool := match dmaW l ps d a s wt with
  | some qs => (qs, true)
  | none => (ps, false)
theorem dmaWF_no {l : List Mp} {ps : Pg} {d a : Int} {s : ByteArray} {wt : Bool} (h : runs l ps d a s.size wt = none) : dmaWF l ps d a s wt = (ps, false) := by unfold dmaWF dmaW; rw [h]; rfl
theorem dmaWF_yes {l : List Mp} {ps : Pg} {d a : Int} {s : ByteArray} {wt : Bool} {rs : List (Int × Int)} (h : runs l ps d a s.size wt = some rs) : dmaWF l ps d a s wt = (writeAll ps rs s, true) := by unfold dmaWF dmaW; rw [h]; rfl

set_option maxRecDepth 100000 in
set_option maxHeartbeats 4000000 in
theorem put_any (v1 v2 : Value) (l : List Mp) (ps : Pg) (d a : Int) (s : ByteArray) (wt : Bool) (w : World) (k1 : Holds w l [v1]) (k2 : Holds w ps [v2]) (hl : ps.length ≤ 1099511627776) (hd : i64ok d) (ha : i64ok a) (hn : s.size ≤ 9223372036854775807) {qs : Pg} {ok : Bool} (hr : (qs, ok) = dmaWF l ps d a s wt) :
    Calls Try.prog 116 #[v1, .agg #[v2], .int .i64 d, .int .i64 a, .string s, .bool wt] w (RetMemB w qs ok) := by
  obtain ⟨AA, cap, rfl, z1, z2⟩ := k1.fl
  unfold maxLen at z2
  obtain ⟨BB, cap2, rfl, y1, y2⟩ := k2.fl
  unfold maxLen at y2
  replace hd := hid hd
  replace ha := hid ha
  cases hO : runs l ps d a s.size wt with
  | none =>
    have HO := hid hO
    rw [dmaWF_no hO] at hr
    simp only [Prod.mk.injEq] at hr
    obtain ⟨e1, rfl⟩ := hr
    replace e1 := e1.symm
    subst e1
    clear hO
    have HS := St.start w
    go_enter Try.func116, Try.ntmps116
    go_wp2_with (first
          | (go_at_call 55; (with_reducible refine (copyMemory_any _ ps _ (k2.ex HS.ex) hl).mono ?_); rintro e w' ⟨A0, c0, rfl, ho, hx⟩; replace HS := HS.own ho hx; clear ho hx)
          | (go_at_call 119; (with_reducible refine (runsOf_any _ _ l ps d a (s.size : Int) wt _ (k1.ex HS.ex) (k2.ex HS.ex) hd.out ha.out (by unfold i64ok; omega) HO.out).mono ?_); rintro e w' ⟨rfl, hx⟩; replace HS := HS.grow hx; clear hx)
          | ((with_reducible (show wpList _ _ _ (Oper.mk (some 7) (Op.box _ _) _ _ _ _ :: _) _ _)); refine wpList_box_st (o := ⟨some 7, .box _ _, _, _, _, _⟩) rfl _ _ rfl (v := .agg (List.toArray _)) rfl HS ?_; clear HS; intro w7 b7 hb7 HS; simp only [Value.cells] at HS)
          | ((with_reducible (show wpList _ _ _ (Oper.mk (some 12) (Op.alloc _) _ _ _ _ :: _) _ _)); refine wpList_alloc_st (o := ⟨some 12, .alloc _, _, _, _, _⟩) rfl _ rfl zc_impl_Memory HS ?_; clear HS; intro w12 b12 hb12 HS)
          | ((with_reducible (show wpList _ _ _ (Oper.mk (some 19) (Op.load _ _) _ _ _ _ :: _) _ _)); refine wpList_loadA_st (o := ⟨some 19, .load _ _, _, _, _, _⟩) rfl _ _ rfl rfl HS tk ag_impl_Memory lit rfl ?_)
          | ((with_reducible (show wpList _ _ _ (Oper.mk (some 14) (Op.alloc _) _ _ _ _ :: _) _ _)); refine wpList_alloc_st (o := ⟨some 14, .alloc _, _, _, _, _⟩) rfl _ rfl zc_impl_Memory HS ?_; clear HS; intro w14 b14 hb14 HS)
          | ((with_reducible (show wpList _ _ _ (Oper.mk none (Op.store _ (.tmp 14) _) _ _ _ _ :: _) _ _)); refine wpList_store_st (o := ⟨none, .store _ (.tmp 14) _, _, _, _, _⟩) rfl _ _ _ rfl rfl (v := .agg (List.toArray _)) rfl HS tk sz_impl_Memory vcs rfx rfx (by simp) ?_ rfl; clear HS; intro w1_3 hz1_3 HS; simp only [nicL, Value.cells, List.append_nil] at HS)
          | ((with_reducible (show wpList _ _ _ (Oper.mk (some 23) (Op.load _ _) _ _ _ _ :: _) _ _)); refine wpList_loadA_st (o := ⟨some 23, .load _ _, _, _, _, _⟩) rfl _ _ rfl rfl HS tk ag_impl_Memory lit rfl ?_)
          | ((with_reducible (show wpList _ _ _ (Oper.mk (some 34) (Op.load _ _) _ _ _ _ :: _) _ _)); refine wpList_loadA_st (o := ⟨some 34, .load _ _, _, _, _, _⟩) rfl _ _ rfl rfl HS tk ag_impl_Memory lit rfl ?_)
          | ((with_reducible (show wpList _ _ _ (Oper.mk none (Op.store _ (.tmp 12) _) _ _ _ _ :: _) _ _)); refine wpList_store_st (o := ⟨none, .store _ (.tmp 12) _, _, _, _, _⟩) rfl _ _ _ rfl rfl (v := .agg (List.toArray _)) rfl HS tk sz_impl_Memory vcs rfx rfx (by simp) ?_ rfl; clear HS; intro w4_1 hz4_1 HS; simp only [nicL, Value.cells, List.append_nil] at HS))
    refine bodyPost_rets rfx (RVs.cell rfx HS tk ag_impl_Memory rfx (RVs.tmp rfx RVs.nil)) (by simp) rfx ?_
    exact retMemB HS tk
  | some rs =>
    have HO := hid hO
    rw [dmaWF_yes hO] at hr
    simp only [Prod.mk.injEq] at hr
    obtain ⟨hR, rfl⟩ := hr
    obtain ⟨f1, f2, f3, f4, f5, f6⟩ := runs_fine hO
    clear hO f1
    have HRR := hid hR
    have HMM := hid f2
    have hps := f2.1
    have hs0 : s.size ≤ 4096 := by omega
    have HFF : Hid (Fits ps.length rs s.size) := hid ⟨f4, f5⟩
    clear hR f2 f3 f4 f5
    have HS := St.start w
    go_enter Try.func116, Try.ntmps116
    go_wp2_with (first
          | (go_at_call 55; (with_reducible refine (copyMemory_any _ ps _ (k2.ex HS.ex) hl).mono ?_); rintro e w' ⟨A0, c0, rfl, ho, hx⟩; replace HS := HS.own ho hx; clear ho hx)
          | (go_at_call 119; (with_reducible refine (runsOf_any _ _ l ps d a (s.size : Int) wt _ (k1.ex HS.ex) (k2.ex HS.ex) hd.out ha.out (by unfold i64ok; omega) HO.out).mono ?_); rintro e w' ⟨A1, c1, rfl, ho, hx⟩; replace HS := HS.own ho hx; clear ho hx)
          | ((with_reducible (show wpList _ _ _ (Oper.mk (some 7) (Op.box _ _) _ _ _ _ :: _) _ _)); refine wpList_box_st (o := ⟨some 7, .box _ _, _, _, _, _⟩) rfl _ _ rfl (v := .agg (List.toArray _)) rfl HS ?_; clear HS; intro w7 b7 hb7 HS; simp only [Value.cells] at HS)
          | ((with_reducible (show wpList _ _ _ (Oper.mk (some 12) (Op.alloc _) _ _ _ _ :: _) _ _)); refine wpList_alloc_st (o := ⟨some 12, .alloc _, _, _, _, _⟩) rfl _ rfl zc_impl_Memory HS ?_; clear HS; intro w12 b12 hb12 HS)
          | ((with_reducible (show wpList _ _ _ (Oper.mk (some 19) (Op.load _ _) _ _ _ _ :: _) _ _)); refine wpList_loadA_st (o := ⟨some 19, .load _ _, _, _, _, _⟩) rfl _ _ rfl rfl HS tk ag_impl_Memory lit rfl ?_)
          | ((with_reducible (show wpList _ _ _ (Oper.mk (some 14) (Op.alloc _) _ _ _ _ :: _) _ _)); refine wpList_alloc_st (o := ⟨some 14, .alloc _, _, _, _, _⟩) rfl _ rfl zc_impl_Memory HS ?_; clear HS; intro w14 b14 hb14 HS)
          | ((with_reducible (show wpList _ _ _ (Oper.mk none (Op.store _ (.tmp 14) _) _ _ _ _ :: _) _ _)); refine wpList_store_st (o := ⟨none, .store _ (.tmp 14) _, _, _, _, _⟩) rfl _ _ _ rfl rfl (v := .agg (List.toArray _)) rfl HS tk sz_impl_Memory vcs rfx rfx (by simp) ?_ rfl; clear HS; intro w1_3 hz1_3 HS; simp only [nicL, Value.cells, List.append_nil] at HS)
          | ((with_reducible (show wpList _ _ _ (Oper.mk (some 23) (Op.load _ _) _ _ _ _ :: _) _ _)); refine wpList_loadA_st (o := ⟨some 23, .load _ _, _, _, _, _⟩) rfl _ _ rfl rfl HS tk ag_impl_Memory lit rfl ?_))
    go_loopw [4, 37] (fun sv i wr => ∃ (k : Nat) (t : ByteArray) (cur : Pg) (A0 : Option Addr) (c0 : Nat), k ≤ rs.length ∧ writeAll cur (rs.drop k) t = qs ∧ Fits ps.length (rs.drop k) t.size ∧ MemOk cur ∧ cur.length = ps.length ∧ t.size ≤ 4096 ∧ sv = .string t ∧ i = .int .i64 k ∧ St w wr [rowA b7 [.slice BB ps.length cap2] 27, rowA b12 [.slice none 0 0] 27, rowA b14 [.slice A0 ps.length c0] 27, ownA cur [.slice A0 ps.length c0], ownA rs [.slice A1 rs.length c1]]) (fun _ i _ => rs.length - (intOf i).toNat)
    case atStart => exact ⟨0, s, ps, _, _, Nat.zero_le _, HRR.out.symm, HFF.out, HMM.out, rfl, hs0, rfl, rfl, (HS.arr (by repeat (first | exact Arr.nil | (with_reducible exact take_all _) | (refine Arr.cons tk ?_) | (refine arr_skip ?_))))⟩
    case round =>
      clear HS
      obtain ⟨k, t, cur, A0, c0, hk, ht, hf, hmc, hcl, hts, rfl, rfl, HS⟩ := hrel
      have HMC := hid hmc
      have HCL := hid hcl
      clear hmc
      by_cases hlt : k < rs.length
      case pos =>
        obtain ⟨b1, o1, cc', hv, -, -⟩ := ownA.addr HS (show Take _ (ownA rs [.slice A1 _ _]) _ from tk) (by omega)
        simp only [Value.slice.injEq] at hv
        obtain ⟨rfl, -, -⟩ := hv
        rw [List.drop_eq_getElem_cons hlt] at ht hf
        rw [writeAll] at ht
        obtain ⟨hsg, hx2, hf2⟩ := hf.cons
        clear hf
        generalize hx : rs[k] = x at *
        obtain ⟨x1, x2⟩ := x
        obtain ⟨i1, i2, i3, i4, i5⟩ := seg_i64 hps hsg
        simp only at i4 i5 ht hx2 hf2
        obtain ⟨X2, rfl⟩ := Int.eq_ofNat_of_zero_le (show 0 ≤ x2 by omega)
        rw [Int.toNat_natCast] at ht hf2
        have HX := hid hx
        clear hx i3
        have hX1 : 1 ≤ X2 := by omega
        have hX2 : X2 ≤ t.size := by omega
        have hX3 : X2 ≤ 128 := by omega
        have he1 : (t.extract 0 X2).size = X2 := by rw [ByteArray.size_extract]; omega
        have he2 : (t.extract X2 t.size).size = t.size - X2 := by rw [ByteArray.size_extract]; omega
        have hsg2 : Seg cur.length (x1, ((t.extract 0 X2).size : Int)) := by rw [he1, hcl]; exact hsg
        have hcw := HMC.out.writeSeg (a := x1) (b := t.extract 0 X2) hsg.1 (by rw [hcl]; exact hsg.2.2.2) (by rw [he1]; exact hsg.2.2.1)
        have HMC2 := hid hcw.1
        have HCL2 : Hid ((writeSeg cur x1 (t.extract 0 X2)).length = ps.length) := hid (hcw.2.trans hcl)
        have HI1 : Hid (i64ok x1) := hid i1
        have HSG := hid hsg2
        have HT := hid ht
        have HF2 : Hid (Fits ps.length (rs.drop (k + 1)) (t.extract X2 t.size).size) := hid (by rw [he2]; exact hf2)
        have HK : Hid (rs[k]? = some (x1, (X2 : Int))) := hid (by rw [List.getElem?_eq_getElem hlt, HX.out])
        clear ht hf2 hsg hsg2 i1 i2 i4 i5 hx2 he1 he2 hcw hcl
        go_wp2_with (first
              | ((with_reducible (show wpList _ _ _ (Oper.mk (some 40) (Op.load _ _) _ _ _ _ :: _) _ _)); refine wpList_loadH (o := ⟨some 40, .load _ _, _, _, _, _⟩) rfl _ _ rfl rfl HS (fun _ hs => hs.holds tk) HK.out (by first | rfl | (simp; done) | omega) ag_impl_run rfl flt ?_)
              | ((with_reducible (show wpList _ _ _ (Oper.mk (some 18) (Op.alloc _) _ _ _ _ :: _) _ _)); refine wpList_alloc_st (o := ⟨some 18, .alloc _, _, _, _, _⟩) rfl _ rfl zc_impl_run HS ?_; clear HS; intro w18 b18 hb18 HS)
              | ((with_reducible (show wpList _ _ _ (Oper.mk none (Op.store _ (.tmp 18) _) _ _ _ _ :: _) _ _)); refine wpList_store_st (o := ⟨none, .store _ (.tmp 18) _, _, _, _, _⟩) rfl _ _ _ rfl rfl (v := .agg (List.toArray _)) rfl HS tk sz_impl_run vcs rfx rfx (by simp) ?_ rfl; clear HS; intro w7_3 hz7_3 HS; simp only [nicL, Value.cells, List.append_nil] at HS))
        refine wp_region_plan_st HS (.early 0 (.early 1 (.early 2 (.early 3 (.forced 4 1 (.forced 5 1 (.forced 6 1 (.forced 7 2 (.forced 8 2 (.pure 9 (.pure 10 (.forced 11 2 .done)))))))))))) (by kernel_rfl) (by as_aux_lemma => kernel_rfl) ?_
        intro hne
        replace HS := HS.drew
        try go_simp
        repeat' (first
          | (with_reducible refine wpPlan_forced ?_)
          | ((with_reducible ((show wpPlan _ _ _ _ (.early 0 _) _ _))); (first | (refine wpPlan_skipE rfl rfl ?_; (try go_simp)) | (refine wpPlan_early rfl rfl ?_; intro K hK; (first | ((refine quiet_loadA_st  _ _ rfl rfl tk ag_impl_Memory lit rfl ?_); (try go_simp)) | go_big_quiet_op); (first | go_big_quiet_on | (refine ⟨_, fun _ => rfl, ?_⟩; go_big_quiet_on)))))
          | ((with_reducible (first | (show wpPlan _ _ _ _ (.early 1 _) _ _) | (show wpPlan _ _ _ _ (.early 3 _) _ _))); (first | (refine wpPlan_skipE rfl rfl ?_; (try go_simp)) | (refine wpPlan_early rfl rfl ?_; intro K hK; (first | go_big_quiet_op); (first | go_big_quiet_on | (refine ⟨_, fun _ => rfl, ?_⟩; go_big_quiet_on)))))
          | ((with_reducible ((show wpPlan _ _ _ _ (.early 2 _) _ _))); (first | (refine wpPlan_skipE rfl rfl ?_; (try go_simp)) | (refine wpPlan_early rfl rfl ?_; intro K hK; (first | ((refine quiet_loadS_st  _ _ rfl rfl tk sc_int rfx ?_); (try go_simp)) | go_big_quiet_op); (first | go_big_quiet_on | (refine ⟨_, fun _ => rfl, ?_⟩; go_big_quiet_on)))))
          | ((with_reducible (first | (show wpOne _ _ _ _ 4 1 _ _ _) | (show wpOne _ _ _ _ 6 1 _ _ _))); (first | (refine wpOne_skip rfl rfl ?_; (try go_simp)) | (refine wpOne_1 rfl rfl ?_; intro K hK; go_simp; refine hK _ _ ?_ ?_; (focus (exact stw HS)); clear hK K)))
          | ((with_reducible ((show wpOne _ _ _ _ 5 1 _ _ _))); (first | (refine wpOne_skip rfl rfl ?_; (try go_simp)) | (refine wpOne_1 rfl rfl ?_; intro K hK; (first | (refine wp_loadS_st  _ _ rfl rfl HS tk sc_int rfx ?_)); (try go_simp); refine hK _ _ ?_ ?_; (focus (exact stw HS)); clear hK K)))
          | ((with_reducible ((show wpOne _ _ _ _ 7 2 _ _ _))); (first | (refine wpOne_skip rfl rfl ?_; (try go_simp)) | (refine wpOne_2 rfl rfl ?_; intro K hK; go_simp; (first | (go_at_call 146; (with_reducible refine (writeMemory_seg _ cur x1 _ _ (HS.holds tk) HMC.out HI1.out HSG.out).mono ?_); rintro e w' ⟨A5, c5, rfl, ho, hx⟩; rw [HCL2.out] at ho ⊢; replace HS := HS.own ho hx; clear ho hx)); (try go_simp); refine hK _ _ ?_; clear hK K)))
          | ((with_reducible ((show wpOne _ _ _ _ 8 2 _ _ _))); (first | (refine wpOne_skip rfl rfl ?_; (try go_simp)) | (refine wpOne_2 rfl rfl ?_; intro K hK; go_simp; refine hK _ _ ?_; clear hK K)))
          | ((with_reducible ((show wpPlan _ _ _ _ (.pure _ _) _ _))); (first | (refine wpPlan_skipP rfl rfl ?_; (try go_simp)) | (refine wpPlan_pure rfl rfl ?_; intro K hK; go_big_quiet_op; (first | go_big_quiet_on | (refine ⟨_, fun _ => rfl, ?_⟩; go_big_quiet_on)))))
          | ((with_reducible ((show wpOne _ _ _ _ 11 2 _ _ _))); (first | (refine wpOne_skip rfl rfl ?_; (try go_simp)) | (refine wpOne_2 rfl rfl ?_; intro K hK; (first | (refine wp_store_st  _ _ _ rfl rfl (v := .agg (List.toArray _)) rfl HS tk sz_impl_Memory vcs rfx rfx (by simp) ?_ rfl; clear HS; intro w8_11 hz8_11 HS; simp only [nicL, Value.cells, List.append_nil] at HS) | (refine wp_store_st  _ _ _ rfl rfl (v := .agg _) rfl HS tk sz_impl_Memory vcs rfx rfx (by simp) ?_ rfl; clear HS; intro w8_11 hz8_11 HS; simp only [nicL, Value.cells, List.append_nil] at HS)); (try go_simp); refine hK _ _ ?_; clear hK K)))
          | (with_reducible refine wpPlan_done ?_))
        go_wp2_with (first
              | ((with_reducible (show wpList _ _ _ (Oper.mk (some 54) (Op.load _ _) _ _ _ _ :: _) _ _)); refine wpList_loadS_st (o := ⟨some 54, .load _ _, _, _, _, _⟩) rfl _ _ rfl rfl HS tk sc_int rfx ?_))
        go_roundw
        case rel => exact ⟨k + 1, t.extract X2 t.size, writeSeg cur x1 (t.extract 0 X2), _, _, hlt, HT.out, HF2.out, HMC2.out, HCL2.out, by rw [ByteArray.size_extract]; omega, rfl, by go_num, (HS.arr (by repeat (first | exact Arr.nil | (with_reducible exact take_all _) | (refine Arr.cons tk ?_) | (refine arr_skip ?_))))⟩
        case measure => simp [intOf]; omega
      case neg =>
        obtain rfl : k = rs.length := by omega
        rw [List.drop_length, writeAll] at ht
        have HT := hid ht
        clear ht hf hcl
        go_wp2_with (first
              | ((with_reducible (show wpList _ _ _ (Oper.mk none (Op.store _ (.tmp 12) _) _ _ _ _ :: _) _ _)); refine wpList_store_st (o := ⟨none, .store _ (.tmp 12) _, _, _, _, _⟩) rfl _ _ _ rfl rfl (v := .agg (List.toArray _)) rfl HS tk sz_impl_Memory vcs rfx rfx (by simp) ?_ rfl; clear HS; intro w4_1 hz4_1 HS; simp only [nicL, Value.cells, List.append_nil] at HS)
              | ((with_reducible (show wpList _ _ _ (Oper.mk (some 57) (Op.load _ _) _ _ _ _ :: _) _ _)); refine wpList_loadA_st (o := ⟨some 57, .load _ _, _, _, _, _⟩) rfl _ _ rfl rfl HS tk ag_impl_Memory lit rfl ?_))
        refine bodyPost_rets rfx (RVs.cell rfx HS tk ag_impl_Memory rfx (RVs.tmp rfx RVs.nil)) (by simp) rfx ?_
        rw [← HT.out]
        exact retMemB HS tk

set_option maxRecDepth 100000 in
set_option maxHeartbeats 4000000 in
theorem dmaWrite_any (v1 v2 : Value) (l : List Mp) (ps : Pg) (d a : Int) (s : ByteArray) (w : World) (k1 : Holds w l [v1]) (k2 : Holds w ps [v2]) (hl : ps.length ≤ 1099511627776) (hd : i64ok d) (ha : i64ok a) (hn : s.size ≤ 9223372036854775807) {qs : Pg} {ok : Bool} (hr : (qs, ok) = dmaWF l ps d a s true) :
    Calls Try.prog 56 #[v1, .agg #[v2], .int .i64 d, .int .i64 a, .string s] w (RetMemB w qs ok) := by
  obtain ⟨AA, cap, rfl, z1, z2⟩ := k1.fl
  unfold maxLen at z2
  obtain ⟨BB, cap2, rfl, y1, y2⟩ := k2.fl
  unfold maxLen at y2
  replace hd := hid hd
  replace ha := hid ha
  replace hr := hid hr
  have HR := hr
  have HS := St.start w
  go_enter Try.func56, Try.ntmps56
  go_wp2_with (first
        | (go_at_call 116; (with_reducible refine (put_any _ _ l ps d a s true _ (k1.ex HS.ex) (k2.ex HS.ex) hl hd.out ha.out hn HR.out).mono ?_); rintro e w' ⟨A1, c1, rfl, ho, hx⟩; replace HS := HS.own ho hx; clear ho hx)
        | ((with_reducible (show wpList _ _ _ (Oper.mk (some 6) (Op.box _ _) _ _ _ _ :: _) _ _)); refine wpList_box_st (o := ⟨some 6, .box _ _, _, _, _, _⟩) rfl _ _ rfl (v := .agg (List.toArray _)) rfl HS ?_; clear HS; intro w6 b6 hb6 HS; simp only [Value.cells] at HS)
        | ((with_reducible (show wpList _ _ _ (Oper.mk (some 10) (Op.alloc _) _ _ _ _ :: _) _ _)); refine wpList_alloc_st (o := ⟨some 10, .alloc _, _, _, _, _⟩) rfl _ rfl zc_impl_Memory HS ?_; clear HS; intro w10 b10 hb10 HS)
        | ((with_reducible (show wpList _ _ _ (Oper.mk (some 13) (Op.load _ _) _ _ _ _ :: _) _ _)); refine wpList_loadA_st (o := ⟨some 13, .load _ _, _, _, _, _⟩) rfl _ _ rfl rfl HS tk ag_impl_Memory lit rfl ?_)
        | ((with_reducible (show wpList _ _ _ (Oper.mk none (Op.store _ (.tmp 10) _) _ _ _ _ :: _) _ _)); refine wpList_store_st (o := ⟨none, .store _ (.tmp 10) _, _, _, _, _⟩) rfl _ _ _ rfl rfl (v := .agg (List.toArray _)) rfl HS tk sz_impl_Memory vcs rfx rfx (by simp) ?_ rfl; clear HS; intro w1_8 hz1_8 HS; simp only [nicL, Value.cells, List.append_nil] at HS))
  refine bodyPost_rets rfx (RVs.cell rfx HS tk ag_impl_Memory rfx (RVs.tmp rfx RVs.nil)) (by simp) rfx ?_
  exact retMemB HS tk

end Go.Proofs.Ytelkplponnfkpaa
