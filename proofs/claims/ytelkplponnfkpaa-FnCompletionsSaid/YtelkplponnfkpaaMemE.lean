/- DmaRead: the program and the reference. -/
import Derived.Test.YtelkplponnfkpaaRows
import Derived.Test.YtelkplponnfkpaaMemB
import Derived.Test.YtelkplponnfkpaaMemD
import Derived.Test.YtelkplponnfkpaaTk
namespace Go.Proofs.Ytelkplponnfkpaa
open Go.RowKit
set_option linter.unusedVariables false
set_option linter.unusedSimpArgs false

def dmaRF (l : List Mp) (ps : Pg) (d a n : Int) : ByteArray × Bool := match dmaR l ps d a n with
  | some s => (s, true)
  | none => (⟨#[]⟩, false)
theorem readAll_le (ps : Pg) : ∀ (rs : List (Int × Int)) (o : ByteArray), o.size ≤ (readAll ps rs o).size
  | [], o => Nat.le_refl _
  | r :: rs, o => Nat.le_trans (by rw [ByteArray.size_append]; omega) (readAll_le ps rs (o ++ readSeg ps r))
theorem dmaRF_no {l : List Mp} {ps : Pg} {d a n : Int} (h : runs l ps d a n false = none) : dmaRF l ps d a n = (⟨#[]⟩, false) := by unfold dmaRF dmaR; rw [h]; rfl
theorem dmaRF_yes {l : List Mp} {ps : Pg} {d a n : Int} {rs : List (Int × Int)} (h : runs l ps d a n false = some rs) : dmaRF l ps d a n = (readAll ps rs ⟨#[]⟩, true) := by unfold dmaRF dmaR; rw [h]; rfl
theorem seg_i64 {np : Nat} {r : Int × Int} (hn : np ≤ 64) (h : Seg np r) : i64ok r.1 ∧ i64ok r.2 ∧ 0 ≤ r.1 ∧ 1 ≤ r.2 ∧ r.2 ≤ 128 := by
  obtain ⟨h1, h2, h3, h4⟩ := h
  unfold i64ok
  omega

set_option maxRecDepth 100000 in
set_option maxHeartbeats 4000000 in
theorem dmaRead_any (v1 v2 : Value) (l : List Mp) (ps : Pg) (d a n : Int) (w : World) (k1 : Holds w l [v1]) (k2 : Holds w ps [v2]) (hd : i64ok d) (ha : i64ok a) (hn : i64ok n) {s : ByteArray} {ok : Bool} (hr : (s, ok) = dmaRF l ps d a n) :
    Calls Try.prog 60 #[v1, .agg #[v2], .int .i64 d, .int .i64 a, .int .i64 n] w fun e w' => e = .returned (.tuple #[.string s, .bool ok]) ∧ Ex w w' := by
  obtain ⟨AA, cap, rfl, z1, z2⟩ := k1.fl
  unfold maxLen at z2
  obtain ⟨BB, cap2, rfl, y1, y2⟩ := k2.fl
  unfold maxLen at y2
  replace hd := hid hd
  replace ha := hid ha
  replace hn := hid hn
  cases hO : runs l ps d a n false with
  | none =>
    have HO := hid hO
    rw [dmaRF_no hO] at hr
    simp only [Prod.mk.injEq] at hr
    obtain ⟨rfl, rfl⟩ := hr
    clear hO
    have HS := St.start w
    go_enter Try.func60, Try.ntmps60
    go_wp2_with (first
          | (go_at_call 119; (with_reducible refine (runsOf_any _ _ l ps d a n false _ (k1.ex HS.ex) (k2.ex HS.ex) hd.out ha.out hn.out HO.out).mono ?_); rintro e w' ⟨rfl, hx⟩; replace HS := HS.grow hx; clear hx)
          | ((with_reducible (show wpList _ _ _ (Oper.mk (some 6) (Op.box _ _) _ _ _ _ :: _) _ _)); refine wpList_box_st (o := ⟨some 6, .box _ _, _, _, _, _⟩) rfl _ _ rfl (v := .agg (List.toArray _)) rfl HS ?_; clear HS; intro w6 b6 hb6 HS; simp only [Value.cells] at HS)
          | ((with_reducible (show wpList _ _ _ (Oper.mk (some 21) (Op.load _ _) _ _ _ _ :: _) _ _)); refine wpList_loadA_st (o := ⟨some 21, .load _ _, _, _, _, _⟩) rfl _ _ rfl rfl HS tk ag_impl_Memory lit rfl ?_))
    go_ret2
    exact ⟨rfl, HS.ex⟩
  | some rs =>
    have HO := hid hO
    rw [dmaRF_yes hO] at hr
    simp only [Prod.mk.injEq] at hr
    obtain ⟨hR, rfl⟩ := hr
    obtain ⟨f1, f2, f3, f4, f5, f6⟩ := runs_fine hO
    clear hO f1
    have hRs : s.size ≤ 4096 := by have := readAll_size f2 rs ⟨#[]⟩ f4; rw [f5, ← hR, ba_nil] at this; omega
    have HRR := hid hR
    have HMM := hid f2
    have hps := f2.1
    have HSS := hid f4
    clear hR f2 f3 f4 f5
    have HS := St.start w
    go_enter Try.func60, Try.ntmps60
    go_wp2_with (first
          | (go_at_call 119; (with_reducible refine (runsOf_any _ _ l ps d a n false _ (k1.ex HS.ex) (k2.ex HS.ex) hd.out ha.out hn.out HO.out).mono ?_); rintro e w' ⟨A1, c1, rfl, ho, hx⟩; replace HS := HS.own ho hx; clear ho hx)
          | ((with_reducible (show wpList _ _ _ (Oper.mk (some 6) (Op.box _ _) _ _ _ _ :: _) _ _)); refine wpList_box_st (o := ⟨some 6, .box _ _, _, _, _, _⟩) rfl _ _ rfl (v := .agg (List.toArray _)) rfl HS ?_; clear HS; intro w6 b6 hb6 HS; simp only [Value.cells] at HS)
          | ((with_reducible (show wpList _ _ _ (Oper.mk (some 21) (Op.load _ _) _ _ _ _ :: _) _ _)); refine wpList_loadA_st (o := ⟨some 21, .load _ _, _, _, _, _⟩) rfl _ _ rfl rfl HS tk ag_impl_Memory lit rfl ?_))
    go_loopw [14, 32] (fun ov i wr => ∃ (k : Nat) (t : ByteArray), k ≤ rs.length ∧ readAll ps (rs.drop k) t = s ∧ ov = .string t ∧ i = .int .i64 k ∧ St w wr [rowA b6 [.slice BB ps.length cap2] 27, ownA rs [.slice A1 rs.length c1]]) (fun _ i _ => rs.length - (intOf i).toNat)
    case atStart => exact ⟨0, ⟨#[]⟩, Nat.zero_le _, HRR.out.symm, rfl, rfl, (HS.arr (by repeat (first | exact Arr.nil | (with_reducible exact take_all _) | (refine Arr.cons tk ?_) | (refine arr_skip ?_))))⟩
    case round =>
      clear HS
      obtain ⟨k, t, hk, ht, rfl, rfl, HS⟩ := hrel
      by_cases hlt : k < rs.length
      case pos =>
        obtain ⟨b1, o1, cc', hv, -, -⟩ := ownA.addr HS (show Take _ (ownA rs [.slice A1 _ _]) _ from tk) (by omega)
        simp only [Value.slice.injEq] at hv
        obtain ⟨rfl, -, -⟩ := hv
        have hsg := HSS.out _ (List.getElem_mem hlt)
        rw [List.drop_eq_getElem_cons hlt, readAll] at ht
        generalize hx : rs[k] = x at *
        obtain ⟨x1, x2⟩ := x
        have HX := hid hx
        clear hx
        obtain ⟨i1, i2, -, -, i5⟩ := seg_i64 hps hsg
        simp only at i5
        have hq1 := readSeg_size HMM.out hsg
        simp only at hq1
        have ht1 := readAll_le ps (rs.drop (k + 1)) (t ++ readSeg ps (x1, x2))
        rw [ht, ByteArray.size_append] at ht1
        have HSG := hid hsg
        have HI1 : Hid (i64ok x1) := hid i1
        obtain ⟨q, hq⟩ : ∃ q, readSeg ps (x1, x2) = q := ⟨_, rfl⟩
        rw [hq] at ht hq1 ht1
        have hq2 : q.size ≤ 128 := by omega
        have hts : t.size + q.size ≤ 4096 := by omega
        have HQ := hid hq
        have HT := hid ht
        have HK : Hid (rs[k]? = some (x1, x2)) := hid (by rw [List.getElem?_eq_getElem hlt, HX.out])
        clear hq ht hsg i1 i2 hq1 ht1
        go_wp2_with (first
              | (go_at_call 120; (with_reducible refine (readMemory_seg _ ps x1 x2 _ (k2.ex HS.ex) HMM.out HI1.out HSG.out).mono ?_); rintro e w' ⟨rfl, hx⟩; rw [HQ.out]; replace HS := HS.grow hx; clear hx)
              | ((with_reducible (show wpList _ _ _ (Oper.mk (some 35) (Op.load _ _) _ _ _ _ :: _) _ _)); refine wpList_loadH (o := ⟨some 35, .load _ _, _, _, _, _⟩) rfl _ _ rfl rfl HS (fun _ hs => hs.holds tk) HK.out (by first | rfl | (simp; done) | omega) ag_impl_run rfl flt ?_)
              | ((with_reducible (show wpList _ _ _ (Oper.mk (some 16) (Op.alloc _) _ _ _ _ :: _) _ _)); refine wpList_alloc_st (o := ⟨some 16, .alloc _, _, _, _, _⟩) rfl _ rfl zc_impl_run HS ?_; clear HS; intro w16 b16 hb16 HS)
              | ((with_reducible (show wpList _ _ _ (Oper.mk none (Op.store _ (.tmp 16) _) _ _ _ _ :: _) _ _)); refine wpList_store_st (o := ⟨none, .store _ (.tmp 16) _, _, _, _, _⟩) rfl _ _ _ rfl rfl (v := .agg (List.toArray _)) rfl HS tk sz_impl_run vcs rfx rfx (by simp) ?_ rfl; clear HS; intro w7_3 hz7_3 HS; simp only [nicL, Value.cells, List.append_nil] at HS)
              | ((with_reducible (show wpList _ _ _ (Oper.mk (some 37) (Op.load _ _) _ _ _ _ :: _) _ _)); refine wpList_loadA_st (o := ⟨some 37, .load _ _, _, _, _, _⟩) rfl _ _ rfl rfl HS tk ag_impl_Memory lit rfl ?_)
              | ((with_reducible (show wpList _ _ _ (Oper.mk (some 39) (Op.load _ _) _ _ _ _ :: _) _ _)); refine wpList_loadS_st (o := ⟨some 39, .load _ _, _, _, _, _⟩) rfl _ _ rfl rfl HS tk sc_int rfx ?_)
              | ((with_reducible (show wpList _ _ _ (Oper.mk (some 41) (Op.load _ _) _ _ _ _ :: _) _ _)); refine wpList_loadS_st (o := ⟨some 41, .load _ _, _, _, _, _⟩) rfl _ _ rfl rfl HS tk sc_int rfx ?_))
        go_roundw
        case rel => exact ⟨k + 1, t ++ q, hlt, HT.out, rfl, by go_num, (HS.arr (by repeat (first | exact Arr.nil | (with_reducible exact take_all _) | (refine Arr.cons tk ?_) | (refine arr_skip ?_))))⟩
        case measure => simp [intOf]; omega
      case neg =>
        obtain rfl : k = rs.length := by omega
        rw [List.drop_length, readAll] at ht
        have HT := hid ht
        clear ht
        go_wp2
        go_ret2
        exact ⟨ret_strb HT.out, HS.ex⟩

set_option maxRecDepth 100000 in
set_option maxHeartbeats 4000000 in
theorem dmaReadS_any (v1 v2 : Value) (l : List Mp) (ps : Pg) (d a n : Int) (w : World) (k1 : Holds w l [v1]) (k2 : Holds w ps [v2]) (hd : i64ok d) (ha : i64ok a) (hn : i64ok n) {s : ByteArray} {ok : Bool} (hr : (s, ok) = dmaRF l ps d a n) :
    Calls Try.prog 66 #[v1, .agg #[v2], .int .i64 d, .int .i64 a, .int .i64 n] w fun e w' => e = .returned (.tuple #[.string s, .bool ok]) ∧ Ex w w' := by
  obtain ⟨AA, cap, rfl, z1, z2⟩ := k1.fl
  unfold maxLen at z2
  obtain ⟨BB, cap2, rfl, y1, y2⟩ := k2.fl
  unfold maxLen at y2
  replace hd := hid hd
  replace ha := hid ha
  replace hn := hid hn
  cases hO : runs l ps d a n false with
  | none =>
    have HO := hid hO
    rw [dmaRF_no hO] at hr
    simp only [Prod.mk.injEq] at hr
    obtain ⟨rfl, rfl⟩ := hr
    clear hO
    have HS := St.start w
    go_enter Try.func66, Try.ntmps66
    go_wp2_with (first
          | (go_at_call 125; (with_reducible refine (l17Parts_any _ _ l ps d a n false _ (k1.ex HS.ex) (k2.ex HS.ex) hd.out ha.out hn.out HO.out).mono ?_); rintro e w' ⟨N1, N2, rfl, hx⟩; replace HS := HS.grow hx; clear hx)
          | ((with_reducible (show wpList _ _ _ (Oper.mk (some 6) (Op.box _ _) _ _ _ _ :: _) _ _)); refine wpList_box_st (o := ⟨some 6, .box _ _, _, _, _, _⟩) rfl _ _ rfl (v := .agg (List.toArray _)) rfl HS ?_; clear HS; intro w6 b6 hb6 HS; simp only [Value.cells] at HS)
          | ((with_reducible (show wpList _ _ _ (Oper.mk (some 21) (Op.load _ _) _ _ _ _ :: _) _ _)); refine wpList_loadA_st (o := ⟨some 21, .load _ _, _, _, _, _⟩) rfl _ _ rfl rfl HS tk ag_impl_Memory lit rfl ?_))
    go_ret2
    exact ⟨rfl, HS.ex⟩
  | some rs =>
    have HO := hid hO
    rw [dmaRF_yes hO] at hr
    simp only [Prod.mk.injEq] at hr
    obtain ⟨hR, rfl⟩ := hr
    obtain ⟨f1, f2, f3, f4, f5, f6⟩ := runs_fine hO
    clear hO f1
    have hRs : s.size ≤ 4096 := by have := readAll_size f2 rs ⟨#[]⟩ f4; rw [f5, ← hR, ba_nil] at this; omega
    have HRR := hid hR
    have HMM := hid f2
    have hps := f2.1
    have HSS := hid f4
    clear hR f2 f3 f4 f5
    have HS := St.start w
    go_enter Try.func66, Try.ntmps66
    go_wp2_with (first
          | (go_at_call 125; (with_reducible refine (l17Parts_any _ _ l ps d a n false _ (k1.ex HS.ex) (k2.ex HS.ex) hd.out ha.out hn.out HO.out).mono ?_); rintro e w' ⟨A1, c1, A2, c2, rfl, ho, hx⟩; replace HS := (HS.own (vs := [_] ++ [_]) ho hx).split rfl; clear ho hx)
          | ((with_reducible (show wpList _ _ _ (Oper.mk (some 6) (Op.box _ _) _ _ _ _ :: _) _ _)); refine wpList_box_st (o := ⟨some 6, .box _ _, _, _, _, _⟩) rfl _ _ rfl (v := .agg (List.toArray _)) rfl HS ?_; clear HS; intro w6 b6 hb6 HS; simp only [Value.cells] at HS)
          | ((with_reducible (show wpList _ _ _ (Oper.mk (some 21) (Op.load _ _) _ _ _ _ :: _) _ _)); refine wpList_loadA_st (o := ⟨some 21, .load _ _, _, _, _, _⟩) rfl _ _ rfl rfl HS tk ag_impl_Memory lit rfl ?_))
    go_loopw [15, 16] (fun ov i wr => ∃ (k : Nat) (t : ByteArray), k ≤ rs.length ∧ readAll ps (rs.drop k) t = s ∧ ov = .string t ∧ i = .int .i64 k ∧ St w wr [rowA b6 [.slice BB ps.length cap2] 27, ownA (rs.map (·.1)) [.slice A1 rs.length c1], ownA (rs.map (·.2)) [.slice A2 rs.length c2]]) (fun _ i _ => rs.length - (intOf i).toNat)
    case atStart => exact ⟨0, ⟨#[]⟩, Nat.zero_le _, HRR.out.symm, rfl, rfl, (HS.arr (by repeat (first | exact Arr.nil | (with_reducible exact take_all _) | (refine Arr.cons tk ?_) | (refine arr_skip ?_))))⟩
    case round =>
      clear HS
      obtain ⟨k, t, hk, ht, rfl, rfl, HS⟩ := hrel
      by_cases hlt : k < rs.length
      case pos =>
        obtain ⟨b1, o1, cc', hv, -, -⟩ := ownA.addr HS (show Take _ (ownA (rs.map (·.1)) [.slice A1 _ _]) _ from tk) (by rw [List.length_map]; omega)
        simp only [Value.slice.injEq] at hv
        obtain ⟨rfl, -, -⟩ := hv
        obtain ⟨b2, o2, cc', hv, -, -⟩ := ownA.addr HS (show Take _ (ownA (rs.map (·.2)) [.slice A2 _ _]) _ from tk) (by rw [List.length_map]; omega)
        simp only [Value.slice.injEq] at hv
        obtain ⟨rfl, -, -⟩ := hv
        have hsg := HSS.out _ (List.getElem_mem hlt)
        rw [List.drop_eq_getElem_cons hlt, readAll] at ht
        generalize hx : rs[k] = x at *
        obtain ⟨x1, x2⟩ := x
        have HX := hid hx
        clear hx
        obtain ⟨i1, i2, -, -, i5⟩ := seg_i64 hps hsg
        simp only at i5
        have hq1 := readSeg_size HMM.out hsg
        simp only at hq1
        have ht1 := readAll_le ps (rs.drop (k + 1)) (t ++ readSeg ps (x1, x2))
        rw [ht, ByteArray.size_append] at ht1
        have HSG := hid hsg
        have HI1 : Hid (i64ok x1) := hid i1
        obtain ⟨q, hq⟩ : ∃ q, readSeg ps (x1, x2) = q := ⟨_, rfl⟩
        rw [hq] at ht hq1 ht1
        have hq2 : q.size ≤ 128 := by omega
        have hts : t.size + q.size ≤ 4096 := by omega
        have HQ := hid hq
        have HT := hid ht
        have HK1 : Hid ((rs.map (·.1))[k]? = some x1) := hid (by rw [List.getElem?_map, List.getElem?_eq_getElem hlt, HX.out]; rfl)
        have HK2 : Hid ((rs.map (·.2))[k]? = some x2) := hid (by rw [List.getElem?_map, List.getElem?_eq_getElem hlt, HX.out]; rfl)
        clear hq ht hsg i1 i2 hq1 ht1
        go_wp2
        refine wp_region_plan_st HS (.early 0 (.early 1 (.early 2 (.early 3 (.early 4 (.early 5 (.forced 6 1 (.forced 7 1 (.forced 8 1 (.forced 9 2 (.forced 10 2 (.pure 11 (.pure 12 (.forced 13 2 (.forced 14 2 .done))))))))))))))) (by kernel_rfl) (by as_aux_lemma => kernel_rfl) ?_
        intro hne
        replace HS := HS.drew
        try go_simp
        repeat' (first
          | (with_reducible refine wpPlan_forced ?_)
          | ((with_reducible ((show wpPlan _ _ _ _ (.early 0 _) _ _))); (first | (refine wpPlan_skipE rfl rfl ?_; (try go_simp)) | (refine wpPlan_early rfl rfl ?_; intro K hK; (first | ((refine quiet_loadA_st  _ _ rfl rfl tk ag_impl_Memory lit rfl ?_); (try go_simp)) | go_big_quiet_op); (first | go_big_quiet_on | (refine ⟨_, fun _ => rfl, ?_⟩; go_big_quiet_on)))))
          | ((with_reducible (first | (show wpPlan _ _ _ _ (.early 1 _) _ _) | (show wpPlan _ _ _ _ (.early 2 _) _ _) | (show wpPlan _ _ _ _ (.early 3 _) _ _) | (show wpPlan _ _ _ _ (.early 5 _) _ _))); (first | (refine wpPlan_skipE rfl rfl ?_; (try go_simp)) | (refine wpPlan_early rfl rfl ?_; intro K hK; (first | go_big_quiet_op); (first | go_big_quiet_on | (refine ⟨_, fun _ => rfl, ?_⟩; go_big_quiet_on)))))
          | ((with_reducible ((show wpPlan _ _ _ _ (.early 4 _) _ _))); (first | (refine wpPlan_skipE rfl rfl ?_; (try go_simp)) | (refine wpPlan_early rfl rfl ?_; intro K hK; (first | ((refine quiet_loadHF  _ _ rfl rfl (fun _ hs => hs.holds tk) HK1.out 1 0 (by first | rfl | (simp; done) | omega) rfl (by decide) sc_int flt ?_); (try go_simp)) | go_big_quiet_op); (first | go_big_quiet_on | (refine ⟨_, fun _ => rfl, ?_⟩; go_big_quiet_on)))))
          | ((with_reducible (first | (show wpOne _ _ _ _ 6 1 _ _ _) | (show wpOne _ _ _ _ 7 1 _ _ _))); (first | (refine wpOne_skip rfl rfl ?_; (try go_simp)) | (refine wpOne_1 rfl rfl ?_; intro K hK; go_simp; refine hK _ _ ?_ ?_; (focus (exact stw HS)); clear hK K)))
          | ((with_reducible ((show wpOne _ _ _ _ 8 1 _ _ _))); (first | (refine wpOne_skip rfl rfl ?_; (try go_simp)) | (refine wpOne_1 rfl rfl ?_; intro K hK; (first | (refine wp_loadHF  _ _ rfl rfl HS (fun _ hs => hs.holds tk) HK2.out 1 0 (by first | rfl | (simp; done) | omega) rfl (by decide) sc_int flt ?_)); (try go_simp); refine hK _ _ ?_ ?_; (focus (exact stw HS)); clear hK K)))
          | ((with_reducible ((show wpOne _ _ _ _ 9 2 _ _ _))); (first | (refine wpOne_skip rfl rfl ?_; (try go_simp)) | (refine wpOne_2 rfl rfl ?_; intro K hK; go_simp; (first | (go_at_call 126; (with_reducible refine (readMemoryS_seg _ ps x1 x2 _ (k2.ex HS.ex) HMM.out HI1.out HSG.out).mono ?_); rintro e w' ⟨rfl, hx⟩; rw [HQ.out]; replace HS := HS.grow hx; clear hx)); (try go_simp); refine hK _ _ ?_; clear hK K)))
          | ((with_reducible (first | (show wpOne _ _ _ _ 10 2 _ _ _) | (show wpOne _ _ _ _ 13 2 _ _ _) | (show wpOne _ _ _ _ 14 2 _ _ _))); (first | (refine wpOne_skip rfl rfl ?_; (try go_simp)) | (refine wpOne_2 rfl rfl ?_; intro K hK; go_simp; refine hK _ _ ?_; clear hK K)))
          | ((with_reducible ((show wpPlan _ _ _ _ (.pure _ _) _ _))); (first | (refine wpPlan_skipP rfl rfl ?_; (try go_simp)) | (refine wpPlan_pure rfl rfl ?_; intro K hK; go_big_quiet_op; (first | go_big_quiet_on | (refine ⟨_, fun _ => rfl, ?_⟩; go_big_quiet_on)))))
          | (with_reducible refine wpPlan_done ?_))
        go_wp2
        go_roundw
        case rel => exact ⟨k + 1, t ++ q, hlt, HT.out, rfl, by go_num, (HS.arr (by repeat (first | exact Arr.nil | (with_reducible exact take_all _) | (refine Arr.cons tk ?_) | (refine arr_skip ?_))))⟩
        case measure => simp [intOf]; omega
      case neg =>
        obtain rfl : k = rs.length := by omega
        rw [List.drop_length, readAll] at ht
        have HT := hid ht
        clear ht
        go_wp2
        go_ret2
        exact ⟨ret_strb HT.out, HS.ex⟩

end Go.Proofs.Ytelkplponnfkpaa
