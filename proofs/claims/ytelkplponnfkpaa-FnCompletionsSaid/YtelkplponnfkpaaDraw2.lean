/- A write anywhere in a memory: the reference. -/
import Derived.Test.YtelkplponnfkpaaRows
import Derived.Test.YtelkplponnfkpaaMemB
import Derived.Test.YtelkplponnfkpaaTk
namespace Go.Proofs.Ytelkplponnfkpaa
open Go.RowKit
set_option linter.unusedVariables false
set_option linter.unusedSimpArgs false

theorem _root_.Go.MemOk.set_putBF {s : Pg} {x q : ByteArray} {p : Nat} {r : Int} (h : MemOk s) (hp : p < s.length) (hx : x.size = 128) : MemOk (s.set p (putBF x r q)) := by
  refine ⟨by rw [List.length_set]; exact h.1, fun i hi => ?_⟩
  rw [List.length_set] at hi
  rw [List.getElem_set]
  split
  · rw [putBF_size]; exact hx
  · exact h.2 i hi

set_option maxRecDepth 100000 in
set_option maxHeartbeats 4000000 in
theorem writeMemoryS_tot (v : Value) (ps : Pg) (a : Int) (S : ByteArray) (w : World) (k1 : Holds w ps [v]) (hm : MemOk ps) (hp0 : 0 < ps.length) (ha0 : 0 ≤ a) (hab : a + S.size ≤ 128 * ps.length) :
    Calls Try.prog 111 #[.agg #[v], .int .i64 a, .string S] w fun e w' => ∃ qs : Pg, qs.length = ps.length ∧ MemOk qs ∧ RetMemB w qs true e w' := by
  obtain ⟨AA, cap, rfl, z1, z2⟩ := k1.fl
  unfold maxLen at z2
  have hm1 := hm.1
  have HW : Hid (memInB ps a S.size = true) := hid (memInB_iff.2 ⟨hm, by omega, by omega, by omega, by omega⟩)
  have HS := St.start w
  go_enter Try.func111, Try.ntmps111
  go_wp2_with (first
        | (go_at_call 143; (with_reducible refine (memInS_any _ ps a S.size _ (k1.ex HS.ex) (by omega) (by unfold i64ok; omega) (by unfold i64ok; omega)).mono ?_); rintro e w' ⟨rfl, hx⟩; rw [HW.out]; replace HS := HS.grow hx; clear hx)
        | (go_at_call 74; (with_reducible refine (l16CopyS_any _ ps _ (k1.ex HS.ex) (by omega)).mono ?_); rintro e w' ⟨a1, c1, rfl, ho, hx⟩; replace HS := HS.own ho hx; clear ho hx)
        | ((with_reducible (show wpList _ _ _ (Oper.mk (some 3) (Op.box _ _) _ _ _ _ :: _) _ _)); refine wpList_box_st (o := ⟨some 3, .box _ _, _, _, _, _⟩) rfl _ _ rfl (v := .agg (List.toArray _)) rfl HS ?_; clear HS; intro w3 b3 hb3 HS; simp only [Value.cells] at HS)
        | ((with_reducible (show wpList _ _ _ (Oper.mk (some 6) (Op.alloc _) _ _ _ _ :: _) _ _)); refine wpList_alloc_st (o := ⟨some 6, .alloc _, _, _, _, _⟩) rfl _ rfl zc_impl_Memory HS ?_; clear HS; intro w6 b6 hb6 HS)
        | ((with_reducible (show wpList _ _ _ (Oper.mk (some 11) (Op.load _ _) _ _ _ _ :: _) _ _)); refine wpList_loadA_st (o := ⟨some 11, .load _ _, _, _, _, _⟩) rfl _ _ rfl rfl HS tk ag_impl_Memory lit rfl ?_)
        | ((with_reducible (show wpList _ _ _ (Oper.mk (some 8) (Op.alloc _) _ _ _ _ :: _) _ _)); refine wpList_alloc_st (o := ⟨some 8, .alloc _, _, _, _, _⟩) rfl _ rfl zc_impl_Memory HS ?_; clear HS; intro w8 b8 hb8 HS)
        | ((with_reducible (show wpList _ _ _ (Oper.mk none (Op.store _ (.tmp 8) _) _ _ _ _ :: _) _ _)); refine wpList_store_st (o := ⟨none, .store _ (.tmp 8) _, _, _, _, _⟩) rfl _ _ _ rfl rfl (v := .agg (List.toArray _)) rfl HS tk sz_impl_Memory vcs rfx rfx (by simp) ?_ rfl; clear HS; intro w1_3 hz1_3 HS; simp only [nicL, Value.cells, List.append_nil] at HS)
        | ((with_reducible (show wpList _ _ _ (Oper.mk (some 13) (Op.load _ _) _ _ _ _ :: _) _ _)); refine wpList_loadA_st (o := ⟨some 13, .load _ _, _, _, _, _⟩) rfl _ _ rfl rfl HS tk ag_impl_Memory lit rfl ?_))
  obtain ⟨b, off, _, hv, -, -⟩ := ownA.addr HS (show Take _ (ownA ps [_]) _ from tk) (by omega)
  simp only [Value.slice.injEq] at hv
  obtain ⟨rfl, -, rfl⟩ := hv
  go_loopw [1, 2] (fun i sv wr => ∃ (s : Pg) (x : Int) (t : ByteArray), s.length = ps.length ∧ MemOk s ∧ 0 ≤ x ∧ x + t.size ≤ 128 * ps.length ∧ i = .int .i64 x ∧ sv = .string t ∧ St w wr [rowA b3 [.slice AA ps.length cap] 27, rowA b6 [.slice none 0 0] 27, rowA b8 [.slice (some ⟨b, off, none⟩) ps.length c1] 27, ownA s [.slice (some ⟨b, off, none⟩) ps.length c1]]) (fun i _ _ => (128 * (ps.length : Int) - intOf i).toNat)
  case atStart => exact ⟨ps, a, S, rfl, hm, ha0, hab, rfl, rfl, (HS.arr (by repeat (first | exact Arr.nil | (with_reducible exact take_all _) | (refine Arr.cons tk ?_) | (refine arr_skip ?_))))⟩
  case round =>
    clear HS
    obtain ⟨s, y, t, hsl, hms, hy0, hyb, rfl, rfl, HS⟩ := hrel
    have HMS := hid hms
    by_cases ht : t.size = 0
    case pos =>
      have ht0 : ¬ (0 : Int) < (t.size : Int) := by omega
      clear ht
      go_wp2_with (first
            | ((with_reducible (show wpList _ _ _ (Oper.mk none (Op.store _ (.tmp 6) _) _ _ _ _ :: _) _ _)); refine wpList_store_st (o := ⟨none, .store _ (.tmp 6) _, _, _, _, _⟩) rfl _ _ _ rfl rfl (v := .agg (List.toArray _)) rfl HS tk sz_impl_Memory vcs rfx rfx (by simp) ?_ rfl; clear HS; intro w3_1 hz3_1 HS; simp only [nicL, Value.cells, List.append_nil] at HS)
            | ((with_reducible (show wpList _ _ _ (Oper.mk (some 52) (Op.load _ _) _ _ _ _ :: _) _ _)); refine wpList_loadA_st (o := ⟨some 52, .load _ _, _, _, _, _⟩) rfl _ _ rfl rfl HS tk ag_impl_Memory lit rfl ?_))
      refine bodyPost_rets rfx (RVs.cell rfx HS tk ag_impl_Memory rfx (RVs.tmp rfx RVs.nil)) (by simp) rfx ?_
      obtain ⟨A9, k9, e9⟩ := ownA.form HS (show Take _ (ownA s [_]) _ from tk)
      exact ⟨s, hsl, HMS.out, retMemB HS tk⟩
    case neg =>
      have ht0 : (0 : Int) < (t.size : Int) := by omega
      obtain ⟨p, hp⟩ : ∃ p : Nat, (p : Int) = y / 128 := ⟨(y / 128).toNat, by omega⟩
      obtain ⟨r, hr⟩ : ∃ r : Nat, (r : Int) = y % 128 := ⟨(y % 128).toNat, by omega⟩
      have gp : p < ps.length := by omega
      have gp2 : p < s.length := by omega
      have hx0 := hms.2 p gp2
      have HK := hid (List.getElem?_eq_getElem gp2)
      generalize hxx : s[p] = x at *
      have HX : Hid (x.size = 128) := hid hx0
      have q1 : y.tdiv 128 = (p : Int) := by rw [Int.tdiv_eq_ediv_of_nonneg hy0]; omega
      have q2 : y.tmod 128 = (r : Int) := by rw [Int.tmod_eq_emod_of_nonneg hy0]; omega
      have q3 : y / 128 = (p : Int) := by omega
      have q4 : y % 128 = (r : Int) := by omega
      have hr1 : r ≤ 127 := by omega
      have hts : (t.size : Int) ≤ 8192 := by omega
      clear hp hr ht hms hxx
      by_cases hA : (t.size : Int) < 128 - r
      case pos =>
        have hyb2 : y + t.size ≤ 128 * ps.length := hyb
        go_wp2
        refine wp_region_plan_st HS (.early 0 (.early 1 (.early 2 (.early 3 (.early 4 (.early 5 (.early 6 (.early 7 (.early 8 (.early 9 (.early 10 (.early 11 (.forced 12 1 (.forced 13 1 (.forced 14 1 (.forced 15 2 (.forced 16 2 .done))))))))))))))))) (by kernel_rfl) (by as_aux_lemma => kernel_rfl) ?_
        intro hne
        replace HS := HS.drew
        try go_simp
        repeat' (first
          | (with_reducible refine wpPlan_forced ?_)
          | ((with_reducible (first | (show wpPlan _ _ _ _ (.early 0 _) _ _) | (show wpPlan _ _ _ _ (.early 2 _) _ _) | (show wpPlan _ _ _ _ (.early 3 _) _ _) | (show wpPlan _ _ _ _ (.early 4 _) _ _) | (show wpPlan _ _ _ _ (.early 6 _) _ _) | (show wpPlan _ _ _ _ (.early 7 _) _ _) | (show wpPlan _ _ _ _ (.early 8 _) _ _) | (show wpPlan _ _ _ _ (.early 10 _) _ _) | (show wpPlan _ _ _ _ (.early 11 _) _ _))); (first | (refine wpPlan_skipE rfl rfl ?_; (try go_simp)) | (refine wpPlan_early rfl rfl ?_; intro K hK; (first | go_big_quiet_op); (first | go_big_quiet_on | (refine ⟨_, fun _ => rfl, ?_⟩; go_big_quiet_on)))))
          | ((with_reducible (first | (show wpPlan _ _ _ _ (.early 1 _) _ _) | (show wpPlan _ _ _ _ (.early 5 _) _ _))); (first | (refine wpPlan_skipE rfl rfl ?_; (try go_simp)) | (refine wpPlan_early rfl rfl ?_; intro K hK; (first | ((refine quiet_loadS_st  _ _ rfl rfl tk sc_Sstring rfx ?_); (try go_simp)) | go_big_quiet_op); (first | go_big_quiet_on | (refine ⟨_, fun _ => rfl, ?_⟩; go_big_quiet_on)))))
          | ((with_reducible ((show wpPlan _ _ _ _ (.early 9 _) _ _))); (first | (refine wpPlan_skipE rfl rfl ?_; (try go_simp)) | (refine wpPlan_early rfl rfl ?_; intro K hK; (first | ((refine quiet_loadHF  _ _ rfl rfl (fun _ hs => hs.holds tk) HK.out 1 0 (by first | rfl | (simp; done) | omega) rfl (by decide) sc_string flt ?_); (try go_simp)) | go_big_quiet_op); (first | go_big_quiet_on | (refine ⟨_, fun _ => rfl, ?_⟩; go_big_quiet_on)))))
          | ((with_reducible (first | (show wpOne _ _ _ _ 12 1 _ _ _) | (show wpOne _ _ _ _ 13 1 _ _ _))); (first | (refine wpOne_skip rfl rfl ?_; (try go_simp)) | (refine wpOne_1 rfl rfl ?_; intro K hK; go_simp; refine hK _ _ ?_ ?_; (focus (exact stw HS)); clear hK K)))
          | ((with_reducible ((show wpOne _ _ _ _ 14 1 _ _ _))); (first | (refine wpOne_skip rfl rfl ?_; (try go_simp)) | (refine wpOne_1 rfl rfl ?_; intro K hK; go_simp; (first | (go_at_call 144; (with_reducible refine (putBytesS_any x r _ _ (by omega) (by first | omega | (rw [ByteArray.size_extract]; omega)) (by omega)).mono ?_); rintro e w' ⟨rfl, hx⟩; replace HS := HS.grow hx; clear hx)); (try go_simp); refine hK _ _ ?_ ?_; (focus (exact stw HS)); clear hK K)))
          | ((with_reducible ((show wpOne _ _ _ _ 15 2 _ _ _))); (first | (refine wpOne_skip rfl rfl ?_; (try go_simp)) | (refine wpOne_2 rfl rfl ?_; intro K hK; go_simp; refine hK _ _ ?_; clear hK K)))
          | ((with_reducible ((show wpOne _ _ _ _ 16 2 _ _ _))); (first | (refine wpOne_skip rfl rfl ?_; (try go_simp)) | (refine wpOne_2 rfl rfl ?_; intro K hK; (first | (refine wp_storeF_st  _ _ _ rfl rfl rfl HS tk sz_string rfl gp2 (v := _) (show ByteArray.size _ ≤ maxLen from by rw [putBF_size]; unfold maxLen; omega) rfl rfl ?_ rfl; clear HS; intro w7_16 hz7_16 HS)); (try go_simp); refine hK _ _ ?_; clear hK K)))
          | (with_reducible refine wpPlan_done ?_))
        go_wp2
        go_roundw
        case rel =>
          refine ⟨_, _, _, by rw [List.length_set]; exact hsl, MemOk.set_putBF HMS.out gp2 HX.out, ?_, ?_, rfl, rfl, (HS.arr (by repeat (first | exact Arr.nil | (with_reducible exact take_all _) | (refine Arr.cons tk ?_) | (refine arr_skip ?_))))⟩
          · omega
          · first | (rw [ByteArray.size_extract]; omega) | (rw [show ByteArray.empty.size = 0 from rfl]; omega)
        case measure => simp [intOf]; omega
      case neg =>
        obtain ⟨k0, hk0⟩ : ∃ k : Nat, (k : Int) = 128 - r := ⟨128 - r, by omega⟩
        have q5 : (128 : Int) - r = k0 := by omega
        have hk1 : (k0 : Int) ≤ t.size := by omega
        have hk2 : 1 ≤ k0 := by omega
        have hk3 : k0 ≤ 128 := by omega
        rw [q5] at hA
        clear hk0
        rcases (by omega : (k0 : Int) < t.size ∨ (k0 : Int) = t.size) with hlt | heq
        · go_wp2
          refine wp_region_plan_st HS (.early 0 (.early 1 (.early 2 (.early 3 (.early 4 (.early 5 (.early 6 (.early 7 (.early 8 (.early 9 (.early 10 (.early 11 (.forced 12 1 (.forced 13 1 (.forced 14 1 (.forced 15 2 (.forced 16 2 .done))))))))))))))))) (by kernel_rfl) (by as_aux_lemma => kernel_rfl) ?_
          intro hne
          replace HS := HS.drew
          try go_simp
          repeat' (first
            | (with_reducible refine wpPlan_forced ?_)
            | ((with_reducible (first | (show wpPlan _ _ _ _ (.early 0 _) _ _) | (show wpPlan _ _ _ _ (.early 2 _) _ _) | (show wpPlan _ _ _ _ (.early 3 _) _ _) | (show wpPlan _ _ _ _ (.early 4 _) _ _) | (show wpPlan _ _ _ _ (.early 6 _) _ _) | (show wpPlan _ _ _ _ (.early 7 _) _ _) | (show wpPlan _ _ _ _ (.early 8 _) _ _) | (show wpPlan _ _ _ _ (.early 10 _) _ _) | (show wpPlan _ _ _ _ (.early 11 _) _ _))); (first | (refine wpPlan_skipE rfl rfl ?_; (try go_simp)) | (refine wpPlan_early rfl rfl ?_; intro K hK; (first | go_big_quiet_op); (first | go_big_quiet_on | (refine ⟨_, fun _ => rfl, ?_⟩; go_big_quiet_on)))))
            | ((with_reducible (first | (show wpPlan _ _ _ _ (.early 1 _) _ _) | (show wpPlan _ _ _ _ (.early 5 _) _ _))); (first | (refine wpPlan_skipE rfl rfl ?_; (try go_simp)) | (refine wpPlan_early rfl rfl ?_; intro K hK; (first | ((refine quiet_loadS_st  _ _ rfl rfl tk sc_Sstring rfx ?_); (try go_simp)) | go_big_quiet_op); (first | go_big_quiet_on | (refine ⟨_, fun _ => rfl, ?_⟩; go_big_quiet_on)))))
            | ((with_reducible ((show wpPlan _ _ _ _ (.early 9 _) _ _))); (first | (refine wpPlan_skipE rfl rfl ?_; (try go_simp)) | (refine wpPlan_early rfl rfl ?_; intro K hK; (first | ((refine quiet_loadHF  _ _ rfl rfl (fun _ hs => hs.holds tk) HK.out 1 0 (by first | rfl | (simp; done) | omega) rfl (by decide) sc_string flt ?_); (try go_simp)) | go_big_quiet_op); (first | go_big_quiet_on | (refine ⟨_, fun _ => rfl, ?_⟩; go_big_quiet_on)))))
            | ((with_reducible (first | (show wpOne _ _ _ _ 12 1 _ _ _) | (show wpOne _ _ _ _ 13 1 _ _ _))); (first | (refine wpOne_skip rfl rfl ?_; (try go_simp)) | (refine wpOne_1 rfl rfl ?_; intro K hK; go_simp; refine hK _ _ ?_ ?_; (focus (exact stw HS)); clear hK K)))
            | ((with_reducible ((show wpOne _ _ _ _ 14 1 _ _ _))); (first | (refine wpOne_skip rfl rfl ?_; (try go_simp)) | (refine wpOne_1 rfl rfl ?_; intro K hK; go_simp; (first | (go_at_call 144; (with_reducible refine (putBytesS_any x r _ _ (by omega) (by first | omega | (rw [ByteArray.size_extract]; omega)) (by omega)).mono ?_); rintro e w' ⟨rfl, hx⟩; replace HS := HS.grow hx; clear hx)); (try go_simp); refine hK _ _ ?_ ?_; (focus (exact stw HS)); clear hK K)))
            | ((with_reducible ((show wpOne _ _ _ _ 15 2 _ _ _))); (first | (refine wpOne_skip rfl rfl ?_; (try go_simp)) | (refine wpOne_2 rfl rfl ?_; intro K hK; go_simp; refine hK _ _ ?_; clear hK K)))
            | ((with_reducible ((show wpOne _ _ _ _ 16 2 _ _ _))); (first | (refine wpOne_skip rfl rfl ?_; (try go_simp)) | (refine wpOne_2 rfl rfl ?_; intro K hK; (first | (refine wp_storeF_st  _ _ _ rfl rfl rfl HS tk sz_string rfl gp2 (v := _) (show ByteArray.size _ ≤ maxLen from by rw [putBF_size]; unfold maxLen; omega) rfl rfl ?_ rfl; clear HS; intro w7_16 hz7_16 HS)); (try go_simp); refine hK _ _ ?_; clear hK K)))
            | (with_reducible refine wpPlan_done ?_))
          go_wp2
          go_roundw
          case rel =>
            refine ⟨_, _, _, by rw [List.length_set]; exact hsl, MemOk.set_putBF HMS.out gp2 HX.out, ?_, ?_, rfl, rfl, (HS.arr (by repeat (first | exact Arr.nil | (with_reducible exact take_all _) | (refine Arr.cons tk ?_) | (refine arr_skip ?_))))⟩
            · omega
            · first | (rw [ByteArray.size_extract]; omega) | (rw [show ByteArray.empty.size = 0 from rfl]; omega)
          case measure => simp [intOf]; omega
        · have HEQ := hid heq
          rw [heq] at q5 hA
          clear heq
          go_wp2
          refine wp_region_plan_st HS (.early 0 (.early 1 (.early 2 (.early 3 (.early 4 (.early 5 (.early 6 (.early 7 (.early 8 (.early 9 (.early 10 (.early 11 (.forced 12 1 (.forced 13 1 (.forced 14 1 (.forced 15 2 (.forced 16 2 .done))))))))))))))))) (by kernel_rfl) (by as_aux_lemma => kernel_rfl) ?_
          intro hne
          replace HS := HS.drew
          try go_simp
          repeat' (first
            | (with_reducible refine wpPlan_forced ?_)
            | ((with_reducible (first | (show wpPlan _ _ _ _ (.early 0 _) _ _) | (show wpPlan _ _ _ _ (.early 2 _) _ _) | (show wpPlan _ _ _ _ (.early 3 _) _ _) | (show wpPlan _ _ _ _ (.early 4 _) _ _) | (show wpPlan _ _ _ _ (.early 6 _) _ _) | (show wpPlan _ _ _ _ (.early 7 _) _ _) | (show wpPlan _ _ _ _ (.early 8 _) _ _) | (show wpPlan _ _ _ _ (.early 10 _) _ _) | (show wpPlan _ _ _ _ (.early 11 _) _ _))); (first | (refine wpPlan_skipE rfl rfl ?_; (try go_simp)) | (refine wpPlan_early rfl rfl ?_; intro K hK; (first | go_big_quiet_op); (first | go_big_quiet_on | (refine ⟨_, fun _ => rfl, ?_⟩; go_big_quiet_on)))))
            | ((with_reducible (first | (show wpPlan _ _ _ _ (.early 1 _) _ _) | (show wpPlan _ _ _ _ (.early 5 _) _ _))); (first | (refine wpPlan_skipE rfl rfl ?_; (try go_simp)) | (refine wpPlan_early rfl rfl ?_; intro K hK; (first | ((refine quiet_loadS_st  _ _ rfl rfl tk sc_Sstring rfx ?_); (try go_simp)) | go_big_quiet_op); (first | go_big_quiet_on | (refine ⟨_, fun _ => rfl, ?_⟩; go_big_quiet_on)))))
            | ((with_reducible ((show wpPlan _ _ _ _ (.early 9 _) _ _))); (first | (refine wpPlan_skipE rfl rfl ?_; (try go_simp)) | (refine wpPlan_early rfl rfl ?_; intro K hK; (first | ((refine quiet_loadHF  _ _ rfl rfl (fun _ hs => hs.holds tk) HK.out 1 0 (by first | rfl | (simp; done) | omega) rfl (by decide) sc_string flt ?_); (try go_simp)) | go_big_quiet_op); (first | go_big_quiet_on | (refine ⟨_, fun _ => rfl, ?_⟩; go_big_quiet_on)))))
            | ((with_reducible (first | (show wpOne _ _ _ _ 12 1 _ _ _) | (show wpOne _ _ _ _ 13 1 _ _ _))); (first | (refine wpOne_skip rfl rfl ?_; (try go_simp)) | (refine wpOne_1 rfl rfl ?_; intro K hK; go_simp; refine hK _ _ ?_ ?_; (focus (exact stw HS)); clear hK K)))
            | ((with_reducible ((show wpOne _ _ _ _ 14 1 _ _ _))); (first | (refine wpOne_skip rfl rfl ?_; (try go_simp)) | (refine wpOne_1 rfl rfl ?_; intro K hK; go_simp; (first | (go_at_call 144; (with_reducible refine (putBytesS_any x r _ _ (by omega) (by first | omega | (rw [ByteArray.size_extract]; omega)) (by omega)).mono ?_); rintro e w' ⟨rfl, hx⟩; replace HS := HS.grow hx; clear hx)); (try go_simp); refine hK _ _ ?_ ?_; (focus (exact stw HS)); clear hK K)))
            | ((with_reducible ((show wpOne _ _ _ _ 15 2 _ _ _))); (first | (refine wpOne_skip rfl rfl ?_; (try go_simp)) | (refine wpOne_2 rfl rfl ?_; intro K hK; go_simp; refine hK _ _ ?_; clear hK K)))
            | ((with_reducible ((show wpOne _ _ _ _ 16 2 _ _ _))); (first | (refine wpOne_skip rfl rfl ?_; (try go_simp)) | (refine wpOne_2 rfl rfl ?_; intro K hK; (first | (refine wp_storeF_st  _ _ _ rfl rfl rfl HS tk sz_string rfl gp2 (v := _) (show ByteArray.size _ ≤ maxLen from by rw [putBF_size]; unfold maxLen; omega) rfl rfl ?_ rfl; clear HS; intro w7_16 hz7_16 HS)); (try go_simp); refine hK _ _ ?_; clear hK K)))
            | (with_reducible refine wpPlan_done ?_))
          go_wp2
          go_roundw
          case rel =>
            refine ⟨_, _, _, by rw [List.length_set]; exact hsl, MemOk.set_putBF HMS.out gp2 HX.out, ?_, ?_, rfl, rfl, (HS.arr (by repeat (first | exact Arr.nil | (with_reducible exact take_all _) | (refine Arr.cons tk ?_) | (refine arr_skip ?_))))⟩
            · omega
            · first | (rw [ByteArray.size_extract]; omega) | (rw [show ByteArray.empty.size = 0 from rfl]; omega)
          case measure => simp [intOf]; omega

end Go.Proofs.Ytelkplponnfkpaa
