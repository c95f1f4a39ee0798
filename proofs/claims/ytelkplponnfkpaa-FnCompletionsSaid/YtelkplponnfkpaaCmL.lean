/- The walk of FnCompletions. -/
import Derived.Test.YtelkplponnfkpaaRows
import Derived.Test.YtelkplponnfkpaaDraw3
import Derived.Test.YtelkplponnfkpaaCmP
import Derived.Test.YtelkplponnfkpaaBig
import Derived.Test.YtelkplponnfkpaaElem
import Derived.Laws.StructEq
namespace Go.Proofs.Ytelkplponnfkpaa
open Go.RowKit
set_option linter.unusedVariables false
set_option linter.unusedSimpArgs false

def LWk (l : List Mp) (k : Nat) : Prop := l.length = 5 ∧ (∀ i (h : i < l.length), ∃ q, l[i] = (0, (i : Int), 4 - (i : Int), q)) ∧ ∀ i (h : i < l.length), i < k → l[i] = (0, (i : Int), 4 - (i : Int), true)
theorem LWk.start {l : List Mp} (h : LWp l 5) : LWk l 0 := ⟨h.1, h.2, fun i _ hi => by omega⟩
theorem LWk.step {l : List Mp} {k : Nat} (h : LWk l k) (hk : k < 5) : (∃ q, l[k]? = some (0, (k : Int), 4 - (k : Int), q)) ∧ LWk (l.set k (0, (k : Int), 4 - (k : Int), true)) (k + 1) := by
  obtain ⟨h1, h2, h3⟩ := h
  refine ⟨?_, by simpa using h1, fun i hi => ?_, fun i hi hik => ?_⟩
  · obtain ⟨q, e⟩ := h2 k (by omega)
    exact ⟨q, by rw [List.getElem?_eq_getElem (by omega), e]⟩
  · rw [List.getElem_set]
    split
    · rename_i e; subst e; exact ⟨_, rfl⟩
    · exact h2 i (by simpa using hi)
  · rw [List.getElem_set]
    split
    · rename_i e; subst e; rfl
    · exact h3 i (by simpa using hi) (by omega)
theorem LWk.all {l : List Mp} (h : LWk l 5) : l = L5 := by
  obtain ⟨h1, h2, h3⟩ := h
  refine List.ext_getElem (by rw [h1]; rfl) fun i hi hj => ?_
  rw [h3 i hi (by omega)]
  have : i = 0 ∨ i = 1 ∨ i = 2 ∨ i = 3 ∨ i = 4 := by omega
  rcases this with rfl | rfl | rfl | rfl | rfl <;> rfl
theorem CInv.zero (s : Int) {ps : Pg} (hp : ps = List.replicate 5 (zeroS 128)) (hs : s ≤ 8) : CInv s 0 ps := by
  subst hp
  refine ⟨⟨by simp, fun i hi => by rw [List.getElem_replicate]; exact zeroS_size 128⟩, by simp, fun k k0 k1 => by omega, fun i i0 i1 _ => ?_⟩
  have hp : ∀ a, ∀ k, bAt (pageAt (List.replicate 5 (zeroS 128)) a) k = 0 := fun a k => by
    unfold pageAt
    rw [List.getD_eq_getElem?_getD, List.getElem?_replicate]
    split
    · exact bAt_zeroS 128 k
    · simp [bAt, ByteArray.size]
  unfold w32 mb
  rw [hp, hp, hp, hp]; rfl
theorem cOk24 {p y : Int} (h0 : 0 ≤ p) (h1 : p ≤ 24) (y0 : 0 ≤ y) (y1 : y ≤ 255) : completionOkB p y 0 1 0 = true := by
  simp only [completionOkB, Bool.and_eq_true, inB_iff]; omega

set_option maxRecDepth 100000 in
set_option maxHeartbeats 16000000 in
theorem walk_FnCompletions (w : World) (code : Value) (codeD : List UInt8) (hcode : Holds w codeD [code]) :
    Calls Try.prog 3 #[code] w fun e w' => e = .returned (.bool true) ∧ Ex w w' := by
  obtain ⟨a0, cp0, hv, z1, z2, -⟩ := hcode.bytes
  simp only [List.cons.injEq, and_true] at hv
  subst hv
  unfold maxLen at z2
  by_cases hbig : 1048576 < codeD.length
  case pos =>
    have HQ := hid (decide_eq_true hbig)
    have HS := St.start w
    go_enter Try.func3, Try.ntmps3
    go_wp2_with (first
          | (go_at_call 9; (with_reducible refine (big_v _ codeD _ (hcode.ex HS.ex) HQ.out).mono ?_); rintro e w' ⟨rfl, rfl⟩))
    go_ret
    exact ⟨rfl, HS.ex⟩
  case neg =>
  have HQ := hid (decide_eq_false hbig)
  clear hbig
  obtain ⟨p0, hp0⟩ : ∃ ps : Pg, ps = List.replicate 5 (zeroS 128) := ⟨_, rfl⟩
  have HP0 := hid hp0
  have hpl : p0.length = 5 := by rw [hp0]; simp
  have HPL0 := hid hpl
  clear hp0 hpl
  have HS := St.start w
  go_enter Try.func3, Try.ntmps3
  go_wp2_with (first
        | (go_at_call 9; (with_reducible refine (big_v _ codeD _ (hcode.ex HS.ex) HQ.out).mono ?_); rintro e w' ⟨rfl, rfl⟩)
        | (go_at_call 10; (with_reducible refine (DrawRing_st HS hcode).mono ?_); rintro e w' ⟨l, qs0, rb, rs, rh, rt, A1, c1, A2, c2, ve, hl1, hl2, hl3, hrs, rfl, HS1⟩; clear HS; have HS := HS1; clear HS1; have HL := hid hl1; have HRS := hid hrs; have hrs2 : 2 ≤ rs := (by omega); have hrs8 : rs ≤ 8 := (by omega); clear hl1 hl2 hl3 hrs)
        | ((with_reducible (show wpList _ _ _ (Oper.mk (some 4) (Op.alloc _) _ _ _ _ :: _) _ _)); refine wpList_alloc_st (o := ⟨some 4, .alloc _, _, _, _, _⟩) rfl _ rfl zc_impl_Memory HS ?_; clear HS; intro w4 b4 hb4 HS)
        | ((with_reducible (show wpList _ _ _ (Oper.mk (some 5) (Op.alloc _) _ _ _ _ :: _) _ _)); refine wpList_alloc_st (o := ⟨some 5, .alloc _, _, _, _, _⟩) rfl _ rfl zc_impl_Ring HS ?_; clear HS; intro w5 b5 hb5 HS)
        | ((with_reducible (show wpList _ _ _ (Oper.mk none (Op.store _ (.tmp 4) _) _ _ _ _ :: _) _ _)); refine wpList_store_st (o := ⟨none, .store _ (.tmp 4) _, _, _, _, _⟩) rfl _ _ _ rfl rfl (v := .agg (List.toArray _)) rfl HS tk sz_impl_Memory vcs rfx rfx (by simp) ?_ rfl; clear HS; intro w3_10 hz3_10 HS; simp only [nicL, Value.cells, List.append_nil] at HS)
        | ((with_reducible (show wpList _ _ _ (Oper.mk none (Op.store _ (.tmp 5) _) _ _ _ _ :: _) _ _)); refine wpList_store_st (o := ⟨none, .store _ (.tmp 5) _, _, _, _, _⟩) rfl _ _ _ rfl rfl (v := .agg (List.toArray _)) rfl HS tk sz_impl_Ring vcs rfx rfx (by simp) ?_ rfl; clear HS; intro w3_11 hz3_11 HS; simp only [nicL, Value.cells, List.append_nil] at HS))
  rw [HL.out.1] at HS ⊢
  go_loopw [7] (fun i wr => ∃ (k : Nat) (xs : List Mp), k ≤ 5 ∧ Hid (LWk xs k) ∧ i = .int .i64 (k : Int) ∧ St w wr [ownA xs [.slice A1 5 c1], rowA b4 [.slice A2 qs0.length c2] 27, rowA b5 [.int .i64 rb, .int .i64 rs, .int .i64 rh, .int .i64 rt] 29]) (fun i _ => 5 - (intOf i).toNat)
  case atStart => exact ⟨0, l, by omega, hid (LWk.start HL.out), rfl, (HS.arr (by repeat (first | exact Arr.nil | (with_reducible exact take_all _) | (refine Arr.cons tk ?_) | (refine arr_skip ?_))))⟩
  case round =>
    clear HS
    obtain ⟨k, xs, hk5, HX, rfl, HS⟩ := hrel
    by_cases hlt : k < 5
    case pos =>
      obtain ⟨⟨q, hq⟩, hst⟩ := HX.out.step hlt
      have HK := hid hq
      have HST := hid hst
      clear hq hst
      have hfl : k < xs.length := by rw [HX.out.1]; exact hlt
      have HOK4 : Hid (i64ok 0 ∧ i64ok (k : Int) ∧ i64ok (4 - (k : Int)) ∧ True) := hid (by unfold i64ok; refine ⟨by omega, by omega, by omega, trivial⟩)
      obtain ⟨b, off, cc, hv, -, -⟩ := ownA.addr HS (show Take _ (ownA xs [.slice A1 _ _]) _ from .head) (by omega)
      simp only [Value.slice.injEq] at hv
      obtain ⟨rfl, -, rfl⟩ := hv
      go_wp2_with (first
              | ((with_reducible (show wpList _ _ _ (Oper.mk none (Op.store _ (.tmp 37) _) _ _ _ _ :: _) _ _)); refine wpList_storeE_st (o := ⟨none, .store _ (.tmp 37) _, _, _, _, _⟩) rfl _ _ _ rfl rfl (v := .bool _) rfl HS tk sz_bool 4 3 rfl (by first | rfl | (simp; done) | omega) hfl vcs rfx rfx HK.out (el := ((0 : Int), (k : Int), 4 - (k : Int), true)) (show i64ok _ ∧ i64ok _ ∧ i64ok _ ∧ True from HOK4.out) rfx (by simp) ?_ rfl; clear HS; intro w7_4 hz7_4 HS))
      go_roundw
      case rel => exact ⟨k + 1, _, by omega, HST, by go_num, (HS.arr (by repeat (first | exact Arr.nil | (with_reducible exact take_all _) | (refine Arr.cons tk ?_) | (refine arr_skip ?_))))⟩
      case measure => simp [intOf]; omega
    case neg =>
      obtain rfl : k = 5 := by omega
      obtain rfl := HX.out.all
      go_wp2_with (first
            | (go_at_call 11; (with_reducible refine (newMemory_q (n := 5) HP0.out (by omega) (by omega) _).mono ?_); rintro e w' ⟨A38, c38, rfl, ho, hx⟩; replace HS := HS.own ho hx; clear ho hx)
            | ((with_reducible (show wpList _ _ _ (Oper.mk none (Op.store _ (.tmp 4) _) _ _ _ _ :: _) _ _)); refine wpList_store_st (o := ⟨none, .store _ (.tmp 4) _, _, _, _, _⟩) rfl _ _ _ rfl rfl (v := .agg (List.toArray _)) rfl HS tk sz_impl_Memory vcs rfx rfx (by simp) ?_ rfl; clear HS; intro w3_10 hz3_10 HS; simp only [nicL, Value.cells, List.append_nil] at HS)
            | ((with_reducible (show wpList _ _ _ (Oper.mk (some 40) (Op.load _ _) _ _ _ _ :: _) _ _)); refine wpList_loadS_st (o := ⟨some 40, .load _ _, _, _, _, _⟩) rfl _ _ rfl rfl HS tk sc_int rfx ?_)
            | ((with_reducible (show wpList _ _ _ (Oper.mk (some 8) (Op.alloc _) _ _ _ _ :: _) _ _)); refine wpList_alloc_st (o := ⟨some 8, .alloc _, _, _, _, _⟩) rfl _ rfl zc_impl_CompletionQueue HS ?_; clear HS; intro w8 b8 hb8 HS)
            | ((with_reducible (show wpList _ _ _ (Oper.mk none (Op.store _ (.tmp 8) _) _ _ _ _ :: _) _ _)); refine wpList_store_st (o := ⟨none, .store _ (.tmp 8) _, _, _, _, _⟩) rfl _ _ _ rfl rfl (v := .agg (List.toArray _)) rfl HS tk sz_impl_CompletionQueue vcs rfx rfx (by simp) ?_ rfl; clear HS; intro w9_4 hz9_4 HS; simp only [nicL, Value.cells, List.append_nil] at HS)
            | ((with_reducible (show wpList _ _ _ (Oper.mk (some 42) (Op.load _ _) _ _ _ _ :: _) _ _)); refine wpList_loadA_st (o := ⟨some 42, .load _ _, _, _, _, _⟩) rfl _ _ rfl rfl HS tk ag_impl_CompletionQueue lit rfl ?_)
            | ((with_reducible (show wpList _ _ _ (Oper.mk (some 9) (Op.alloc _) _ _ _ _ :: _) _ _)); refine wpList_alloc_st (o := ⟨some 9, .alloc _, _, _, _, _⟩) rfl _ rfl zc_impl_CompletionQueue HS ?_; clear HS; intro w9 b9 hb9 HS)
            | ((with_reducible (show wpList _ _ _ (Oper.mk none (Op.store _ (.tmp 9) _) _ _ _ _ :: _) _ _)); refine wpList_store_st (o := ⟨none, .store _ (.tmp 9) _, _, _, _, _⟩) rfl _ _ _ rfl rfl (v := .agg (List.toArray _)) rfl HS tk sz_impl_CompletionQueue vcs rfx rfx (by simp) ?_ rfl; clear HS; intro w10_2 hz10_2 HS; simp only [nicL, Value.cells, List.append_nil] at HS))
      rw [HPL0.out] at HS ⊢
      have HSZ := HRS
      have HC0 : Hid (CInv rs 0 p0) := hid (CInv.zero rs HP0.out hrs8)
      clear HL HX HRS HP0
      go_loopw [10, 11, 12] (fun nx pt i wr => ∃ (n p : Int) (k : Nat) (qc dc : Int) (ps : Pg) (A3 : Option Addr) (c3 : Nat), k ≤ 24 ∧ 0 ≤ n ∧ n ≤ p ∧ p - n ≤ rs ∧ p ≤ k ∧ Hid (qc = p % (2 * rs)) ∧ Hid (dc = n % (2 * rs)) ∧ Hid (CInv rs p ps) ∧ nx = .int .i64 n ∧ pt = .int .i64 p ∧ i = .int .i64 (k : Int) ∧ St w wr [rowA b8 [.int .i64 64, .int .i64 rs, .int .i64 qc] 36, rowA b9 [.int .i64 64, .int .i64 rs, .int .i64 dc] 36, rowA b4 [.slice A3 5 c3] 27, ownA ps [.slice A3 5 c3], ownA L5 [.slice A1 5 c1]]) (fun _ _ i _ => 24 - (intOf i).toNat)
      case atStart => exact ⟨0, 0, 0, 0, 0, p0, _, _, by omega, by omega, by omega, by omega, by omega, hid (by rw [Int.zero_emod]), hid (by rw [Int.zero_emod]), HC0, rfl, rfl, rfl, (HS.arr (by repeat (first | exact Arr.nil | (with_reducible exact take_all _) | (refine Arr.cons tk ?_) | (refine arr_skip ?_))))⟩
      case round =>
        clear HS
        obtain ⟨n, p, k, qc, dc, ps, A3, c3, hk24, hn0, hnp, hps, hpk, HQC, HDC, HC, rfl, rfl, rfl, HS⟩ := hrel
        have hp0 : 0 ≤ p := by omega
        have hp24 : p ≤ 24 := by omega
        have HPL : Hid (ps.length ≤ 1099511627776) := hid (by rw [HC.out.2.1]; decide)
        by_cases hlt24 : k < 24
        case pos =>
          by_cases hlt : n < p
          case pos =>
            by_cases hrm : p - n < rs
            case pos =>
              go_wp2_with (first
                    | (go_at_call 12; (with_reducible refine (at_any _ codeD _ _ (hcode.ex HS.ex) (by omega) (by omega)).mono ?_); rintro e w' ⟨y, y0, y1, rfl, rfl⟩; rcases (by omega : y % 2 = 0 ∨ y % 2 = 1) with hy | hy)
                    | (go_at_call 14; obtain ⟨x2, x3, x4, x5, hq1⟩ := CInv.next HSZ.out HC.out hn0 hnp hps; rw [if_pos hlt, ← HDC.out] at hq1; have HQ1 := hid hq1; clear hq1; (with_reducible refine (nextCompletion_any _ _ L5 ps 0 64 rs dc _ (HS.holds tk) (HS.holds tk) (show i64ok 0 by unfold i64ok; omega) HQ1.out.symm).mono ?_); rintro e w' ⟨rfl, hx⟩; replace HS := HS.grow hx; clear hx)
                    | ((with_reducible (show wpList _ _ _ (Oper.mk none (Op.store _ (.tmp 9) _) _ _ _ _ :: _) _ _)); refine wpList_store_st (o := ⟨none, .store _ (.tmp 9) _, _, _, _, _⟩) rfl _ _ _ rfl rfl (v := .agg (List.toArray _)) rfl HS tk sz_impl_CompletionQueue vcs rfx rfx (by simp) ?_ rfl; clear HS; intro w10_2 hz10_2 HS; simp only [nicL, Value.cells, List.append_nil] at HS)
                    | ((with_reducible (show wpList _ _ _ (Oper.mk (some 57) (Op.load _ _) _ _ _ _ :: _) _ _)); refine wpList_loadS_st (o := ⟨some 57, .load _ _, _, _, _, _⟩) rfl _ _ rfl rfl HS tk sc_int rfx ?_)
                    | ((with_reducible (show wpList _ _ _ (Oper.mk (some 82) (Op.load _ _) _ _ _ _ :: _) _ _)); refine wpList_loadA_st (o := ⟨some 82, .load _ _, _, _, _, _⟩) rfl _ _ rfl rfl HS tk ag_impl_Memory lit rfl ?_)
                    | ((with_reducible (show wpList _ _ _ (Oper.mk (some 83) (Op.load _ _) _ _ _ _ :: _) _ _)); refine wpList_loadA_st (o := ⟨some 83, .load _ _, _, _, _, _⟩) rfl _ _ rfl rfl HS tk ag_impl_CompletionQueue lit rfl ?_)
                    | ((with_reducible (show wpList _ _ _ (Oper.mk (some 16) (Op.alloc _) _ _ _ _ :: _) _ _)); refine wpList_alloc_st (o := ⟨some 16, .alloc _, _, _, _, _⟩) rfl _ rfl zc_impl_Completion HS ?_; clear HS; intro w16 b16 hb16 HS)
                    | ((with_reducible (show wpList _ _ _ (Oper.mk (some 17) (Op.alloc _) _ _ _ _ :: _) _ _)); refine wpList_alloc_st (o := ⟨some 17, .alloc _, _, _, _, _⟩) rfl _ rfl zc_impl_CompletionQueue HS ?_; clear HS; intro w17 b17 hb17 HS)
                    | ((with_reducible (show wpList _ _ _ (Oper.mk none (Op.store _ (.tmp 16) _) _ _ _ _ :: _) _ _)); refine wpList_store_st (o := ⟨none, .store _ (.tmp 16) _, _, _, _, _⟩) rfl _ _ _ rfl rfl (v := .agg (List.toArray _)) rfl HS tk sz_impl_Completion vcs rfx rfx (by simp) ?_ rfl; clear HS; intro w23_10 hz23_10 HS; simp only [nicL, Value.cells, List.append_nil] at HS)
                    | ((with_reducible (show wpList _ _ _ (Oper.mk none (Op.store _ (.tmp 17) _) _ _ _ _ :: _) _ _)); refine wpList_store_st (o := ⟨none, .store _ (.tmp 17) _, _, _, _, _⟩) rfl _ _ _ rfl rfl (v := .agg (List.toArray _)) rfl HS tk sz_impl_CompletionQueue vcs rfx rfx (by simp) ?_ rfl; clear HS; intro w23_11 hz23_11 HS; simp only [nicL, Value.cells, List.append_nil] at HS)
                    | ((with_reducible (show wpList _ _ _ (Oper.mk (some 97) (Op.load _ _) _ _ _ _ :: _) _ _)); refine wpList_loadS_st (o := ⟨some 97, .load _ _, _, _, _, _⟩) rfl _ _ rfl rfl HS tk sc_int rfx ?_)
                    | ((with_reducible (show wpList _ _ _ (Oper.mk (some 103) (Op.load _ _) _ _ _ _ :: _) _ _)); refine wpList_loadA_st (o := ⟨some 103, .load _ _, _, _, _, _⟩) rfl _ _ rfl rfl HS tk ag_impl_CompletionQueue lit rfl ?_))
              · refine wp_region_fl HS (show Arr _ [rowA b4 _ _, rowA b8 _ _] from ary) (.early 0 (.early 1 (.early 2 (.early 3 (.early 4 (.early 5 (.early 6 (.forced 7 1 (.forced 8 1 (.forced 9 1 (.pure 10 (.pure 11 (.pure 12 (.pure 13 (.land 14 (.land 15 (.forced 16 2 (.forced 17 2 (.pure 18 .done))))))))))))))))))) [14, 15] (by kernel_rfl) (by as_aux_lemma => kernel_rfl) ?_
                intro hne
                clear HS
                try go_simp
                repeat' (first
                  | (with_reducible refine wpF_forced ?_)
                  | ((with_reducible (first | (show wpF _ _ _ _ _ (.early 0 _) _ _) | (show wpF _ _ _ _ _ (.early 3 _) _ _) | (show wpF _ _ _ _ _ (.early 4 _) _ _) | (show wpF _ _ _ _ _ (.early 5 _) _ _) | (show wpF _ _ _ _ _ (.early 6 _) _ _))); (first | (refine wpF_skipE rfl rfl ?_; (try go_simp)) | (refine wpF_early rfl rfl ?_; intro K hK; (first | go_big_quiet_op); (first | go_big_quiet_on | (refine ⟨_, fun _ => rfl, ?_⟩; go_big_quiet_on)))))
                  | ((with_reducible ((show wpF _ _ _ _ _ (.early 1 _) _ _))); (first | (refine wpF_skipE rfl rfl ?_; (try go_simp)) | (refine wpF_early rfl rfl ?_; intro K hK; (first | ((refine quiet_loadA_st  _ _ rfl rfl tk ag_impl_Memory lit rfl ?_); (try go_simp)) | go_big_quiet_op); (first | go_big_quiet_on | (refine ⟨_, fun _ => rfl, ?_⟩; go_big_quiet_on)))))
                  | ((with_reducible ((show wpF _ _ _ _ _ (.early 2 _) _ _))); (first | (refine wpF_skipE rfl rfl ?_; (try go_simp)) | (refine wpF_early rfl rfl ?_; intro K hK; (first | ((refine quiet_loadA_st  _ _ rfl rfl tk ag_impl_CompletionQueue lit rfl ?_); (try go_simp)) | go_big_quiet_op); (first | go_big_quiet_on | (refine ⟨_, fun _ => rfl, ?_⟩; go_big_quiet_on)))))
                  | ((with_reducible ((show OneF _ _ _ _ _ 7 1 _ _ _))); (first | (refine oneF_skip rfl rfl ?_; (try go_simp)) | (refine oneF_1 rfl rfl ?_; intro wq Fq HS K hK; go_simp; (first | (go_at_call 12; (with_reducible refine (at_any _ codeD _ _ (hcode.ex HS.ex) (by omega) (by omega)).mono ?_); rintro e w' ⟨y, y0, y1, rfl, rfl⟩)); (try go_simp); refine hK _ _ _ ?_ (HS.take tk) ?_; (focus (exact stw HS)); clear HS hK K)))
                  | ((with_reducible ((show OneF _ _ _ _ _ 8 1 _ _ _))); (first | (refine oneF_skip rfl rfl ?_; (try go_simp)) | (refine oneF_1 rfl rfl ?_; intro wq Fq HS K hK; go_simp; refine hK _ _ _ ?_ (HS.take tk) ?_; (focus (exact stw HS)); clear HS hK K)))
                  | ((with_reducible ((show OneF _ _ _ _ _ 9 1 _ _ _))); (first | (refine oneF_skip rfl rfl ?_; (try go_simp)) | (refine oneF_1 rfl rfl ?_; intro wq Fq HS K hK; go_simp; (first | (go_at_call 13; obtain ⟨qs, hq1, hq2⟩ := CInv.put HSZ.out HC.out hp0 (cOk24 hp0 hp24 y0 y1); have HC2 := hid hq2; have HQ1 := hid hq1; clear hq1 hq2; (with_reducible refine (putCompletion_any _ _ L5 ps 0 64 rs qc p y 0 1 0 _ (HS.holds tk) (HS.holds tk) HPL.out (show i64ok 0 by unfold i64ok; omega) (HQC.out ▸ HQ1.out).symm).mono ?_); rintro e w' ⟨A70, c70, rfl, ho, hx⟩; replace HS := HS.own ho hx; clear ho hx; rw [HC2.out.2.1] at HS ⊢)); (try go_simp); refine hK _ _ _ ?_ (HS.take tk) ?_; (focus (exact stw HS)); clear HS hK K)))
                  | ((with_reducible ((show wpF _ _ _ _ _ (.pure _ _) _ _))); (first | (refine wpF_skipP rfl rfl ?_; (try go_simp)) | (refine wpF_pure rfl rfl ?_; intro K hK; go_big_quiet_op; (first | go_big_quiet_on | (refine ⟨_, fun _ => rfl, ?_⟩; go_big_quiet_on)))))
                  | ((with_reducible ((show wpF _ _ _ _ _ (.land 14 _) _ _))); (refine wpF_land rfl rfl zc_impl_Memory ?_; intro b13; (try go_simp)))
                  | ((with_reducible ((show wpF _ _ _ _ _ (.land 15 _) _ _))); (refine wpF_land rfl rfl zc_impl_CompletionQueue ?_; intro b14; (try go_simp)))
                  | ((with_reducible ((show OneF _ _ _ _ _ 16 2 _ _ _))); (first | (refine oneF_skip rfl rfl ?_; (try go_simp)) | (refine oneF_2 rfl rfl ?_; intro wq Fq HS K hK; (first | (refine wp_store_st  _ _ _ rfl rfl (v := .agg (List.toArray _)) rfl HS tk sz_impl_Memory vcs rfx rfx (by simp) ?_ rfl; clear HS; intro w17_16 hz17_16 HS; simp only [nicL, Value.cells, List.append_nil] at HS) | (refine wp_store_st  _ _ _ rfl rfl (v := .agg _) rfl HS tk sz_impl_Memory vcs rfx rfx (by simp) ?_ rfl; clear HS; intro w17_16 hz17_16 HS; simp only [nicL, Value.cells, List.append_nil] at HS)); (try go_simp); refine hK _ _ _ (HS.take tk) ?_; clear HS hK K)))
                  | ((with_reducible ((show OneF _ _ _ _ _ 17 2 _ _ _))); (first | (refine oneF_skip rfl rfl ?_; (try go_simp)) | (refine oneF_2 rfl rfl ?_; intro wq Fq HS K hK; (first | (refine wp_store_st  _ _ _ rfl rfl (v := .agg (List.toArray _)) rfl HS tk sz_impl_CompletionQueue vcs rfx rfx (by simp) ?_ rfl; clear HS; intro w17_17 hz17_17 HS; simp only [nicL, Value.cells, List.append_nil] at HS) | (refine wp_store_st  _ _ _ rfl rfl (v := .agg _) rfl HS tk sz_impl_CompletionQueue vcs rfx rfx (by simp) ?_ rfl; clear HS; intro w17_17 hz17_17 HS; simp only [nicL, Value.cells, List.append_nil] at HS)); (try go_simp); refine hK _ _ _ (HS.take tk) ?_; clear HS hK K)))
                  | (with_reducible refine wpF_done ?_))
                all_goals intro w9 HS
                all_goals
                  go_wp2_with (first
                        | ((with_reducible (show wpList _ _ _ (Oper.mk none (Op.store _ (.tmp 4) _) _ _ _ _ :: _) _ _)); refine wpList_store_st (o := ⟨none, .store _ (.tmp 4) _, _, _, _, _⟩) rfl _ _ _ rfl rfl (v := .agg (List.toArray _)) rfl HS tk sz_impl_Memory vcs rfx rfx (by simp) ?_ rfl; clear HS; intro w3_10 hz3_10 HS; simp only [nicL, Value.cells, List.append_nil] at HS)
                        | ((with_reducible (show wpList _ _ _ (Oper.mk none (Op.store _ (.tmp 8) _) _ _ _ _ :: _) _ _)); refine wpList_store_st (o := ⟨none, .store _ (.tmp 8) _, _, _, _, _⟩) rfl _ _ _ rfl rfl (v := .agg (List.toArray _)) rfl HS tk sz_impl_CompletionQueue vcs rfx rfx (by simp) ?_ rfl; clear HS; intro w9_4 hz9_4 HS; simp only [nicL, Value.cells, List.append_nil] at HS)
                        | ((with_reducible (show wpList _ _ _ (Oper.mk (some 76) (Op.load _ _) _ _ _ _ :: _) _ _)); refine wpList_loadA_st (o := ⟨some 76, .load _ _, _, _, _, _⟩) rfl _ _ rfl rfl HS tk ag_impl_Memory lit rfl ?_)
                        | ((with_reducible (show wpList _ _ _ (Oper.mk (some 77) (Op.load _ _) _ _ _ _ :: _) _ _)); refine wpList_loadA_st (o := ⟨some 77, .load _ _, _, _, _, _⟩) rfl _ _ rfl rfl HS tk ag_impl_CompletionQueue lit rfl ?_))
                  go_roundw
                  case rel => exact ⟨n, p + 1, k + 1, (p + 1) % (2 * rs), dc, qs, A70, c70, by omega, by omega, by omega, by omega, by omega, hid rfl, HDC, HC2, rfl, by go_num, by go_num, (HS.arr (by repeat (first | exact Arr.nil | (with_reducible exact take_all _) | (refine Arr.cons tk ?_) | (refine arr_skip ?_))))⟩
                  case measure => simp [intOf]; omega
              · go_roundw
                case rel => exact ⟨n + 1, p, k + 1, qc, (n + 1) % (2 * rs), ps, A3, c3, by omega, by omega, by omega, by omega, by omega, HQC, hid rfl, HC, by go_num, rfl, by go_num, (HS.arr (by repeat (first | exact Arr.nil | (with_reducible exact take_all _) | (refine Arr.cons tk ?_) | (refine arr_skip ?_))))⟩
                case measure => simp [intOf]; omega
            case neg =>
              go_wp2_with (first
                    | (go_at_call 12; (with_reducible refine (at_any _ codeD _ _ (hcode.ex HS.ex) (by omega) (by omega)).mono ?_); rintro e w' ⟨y, y0, y1, rfl, rfl⟩; rcases (by omega : y % 2 = 0 ∨ y % 2 = 1) with hy | hy)
                    | (go_at_call 14; obtain ⟨x2, x3, x4, x5, hq1⟩ := CInv.next HSZ.out HC.out hn0 hnp hps; rw [if_pos hlt, ← HDC.out] at hq1; have HQ1 := hid hq1; clear hq1; (with_reducible refine (nextCompletion_any _ _ L5 ps 0 64 rs dc _ (HS.holds tk) (HS.holds tk) (show i64ok 0 by unfold i64ok; omega) HQ1.out.symm).mono ?_); rintro e w' ⟨rfl, hx⟩; replace HS := HS.grow hx; clear hx)
                    | ((with_reducible (show wpList _ _ _ (Oper.mk none (Op.store _ (.tmp 9) _) _ _ _ _ :: _) _ _)); refine wpList_store_st (o := ⟨none, .store _ (.tmp 9) _, _, _, _, _⟩) rfl _ _ _ rfl rfl (v := .agg (List.toArray _)) rfl HS tk sz_impl_CompletionQueue vcs rfx rfx (by simp) ?_ rfl; clear HS; intro w10_2 hz10_2 HS; simp only [nicL, Value.cells, List.append_nil] at HS)
                    | ((with_reducible (show wpList _ _ _ (Oper.mk (some 57) (Op.load _ _) _ _ _ _ :: _) _ _)); refine wpList_loadS_st (o := ⟨some 57, .load _ _, _, _, _, _⟩) rfl _ _ rfl rfl HS tk sc_int rfx ?_)
                    | ((with_reducible (show wpList _ _ _ (Oper.mk (some 82) (Op.load _ _) _ _ _ _ :: _) _ _)); refine wpList_loadA_st (o := ⟨some 82, .load _ _, _, _, _, _⟩) rfl _ _ rfl rfl HS tk ag_impl_Memory lit rfl ?_)
                    | ((with_reducible (show wpList _ _ _ (Oper.mk (some 83) (Op.load _ _) _ _ _ _ :: _) _ _)); refine wpList_loadA_st (o := ⟨some 83, .load _ _, _, _, _, _⟩) rfl _ _ rfl rfl HS tk ag_impl_CompletionQueue lit rfl ?_)
                    | ((with_reducible (show wpList _ _ _ (Oper.mk (some 16) (Op.alloc _) _ _ _ _ :: _) _ _)); refine wpList_alloc_st (o := ⟨some 16, .alloc _, _, _, _, _⟩) rfl _ rfl zc_impl_Completion HS ?_; clear HS; intro w16 b16 hb16 HS)
                    | ((with_reducible (show wpList _ _ _ (Oper.mk (some 17) (Op.alloc _) _ _ _ _ :: _) _ _)); refine wpList_alloc_st (o := ⟨some 17, .alloc _, _, _, _, _⟩) rfl _ rfl zc_impl_CompletionQueue HS ?_; clear HS; intro w17 b17 hb17 HS)
                    | ((with_reducible (show wpList _ _ _ (Oper.mk none (Op.store _ (.tmp 16) _) _ _ _ _ :: _) _ _)); refine wpList_store_st (o := ⟨none, .store _ (.tmp 16) _, _, _, _, _⟩) rfl _ _ _ rfl rfl (v := .agg (List.toArray _)) rfl HS tk sz_impl_Completion vcs rfx rfx (by simp) ?_ rfl; clear HS; intro w23_10 hz23_10 HS; simp only [nicL, Value.cells, List.append_nil] at HS)
                    | ((with_reducible (show wpList _ _ _ (Oper.mk none (Op.store _ (.tmp 17) _) _ _ _ _ :: _) _ _)); refine wpList_store_st (o := ⟨none, .store _ (.tmp 17) _, _, _, _, _⟩) rfl _ _ _ rfl rfl (v := .agg (List.toArray _)) rfl HS tk sz_impl_CompletionQueue vcs rfx rfx (by simp) ?_ rfl; clear HS; intro w23_11 hz23_11 HS; simp only [nicL, Value.cells, List.append_nil] at HS)
                    | ((with_reducible (show wpList _ _ _ (Oper.mk (some 97) (Op.load _ _) _ _ _ _ :: _) _ _)); refine wpList_loadS_st (o := ⟨some 97, .load _ _, _, _, _, _⟩) rfl _ _ rfl rfl HS tk sc_int rfx ?_)
                    | ((with_reducible (show wpList _ _ _ (Oper.mk (some 103) (Op.load _ _) _ _ _ _ :: _) _ _)); refine wpList_loadA_st (o := ⟨some 103, .load _ _, _, _, _, _⟩) rfl _ _ rfl rfl HS tk ag_impl_CompletionQueue lit rfl ?_))
              all_goals
                go_roundw
                case rel => exact ⟨n + 1, p, k + 1, qc, (n + 1) % (2 * rs), ps, A3, c3, by omega, by omega, by omega, by omega, by omega, HQC, hid rfl, HC, by go_num, rfl, by go_num, (HS.arr (by repeat (first | exact Arr.nil | (with_reducible exact take_all _) | (refine Arr.cons tk ?_) | (refine arr_skip ?_))))⟩
                case measure => simp [intOf]; omega
          case neg =>
            obtain rfl : n = p := by omega
            have hrm : n - n < rs := by omega
            go_wp2_with (first
                  | (go_at_call 12; (with_reducible refine (at_any _ codeD _ _ (hcode.ex HS.ex) (by omega) (by omega)).mono ?_); rintro e w' ⟨y, y0, y1, rfl, rfl⟩; rcases (by omega : y % 2 = 0 ∨ y % 2 = 1) with hy | hy)
                  | (go_at_call 14; obtain ⟨x2, x3, x4, x5, hq1⟩ := CInv.next HSZ.out HC.out hn0 hnp hps; rw [if_neg (Int.lt_irrefl _), ← HDC.out] at hq1; have HQ1 := hid hq1; clear hq1; (with_reducible refine (nextCompletion_any _ _ L5 ps 0 64 rs dc _ (HS.holds tk) (HS.holds tk) (show i64ok 0 by unfold i64ok; omega) HQ1.out.symm).mono ?_); rintro e w' ⟨rfl, hx⟩; replace HS := HS.grow hx; clear hx)
                  | ((with_reducible (show wpList _ _ _ (Oper.mk (some 57) (Op.load _ _) _ _ _ _ :: _) _ _)); refine wpList_loadS_st (o := ⟨some 57, .load _ _, _, _, _, _⟩) rfl _ _ rfl rfl HS tk sc_int rfx ?_)
                  | ((with_reducible (show wpList _ _ _ (Oper.mk (some 82) (Op.load _ _) _ _ _ _ :: _) _ _)); refine wpList_loadA_st (o := ⟨some 82, .load _ _, _, _, _, _⟩) rfl _ _ rfl rfl HS tk ag_impl_Memory lit rfl ?_)
                  | ((with_reducible (show wpList _ _ _ (Oper.mk (some 83) (Op.load _ _) _ _ _ _ :: _) _ _)); refine wpList_loadA_st (o := ⟨some 83, .load _ _, _, _, _, _⟩) rfl _ _ rfl rfl HS tk ag_impl_CompletionQueue lit rfl ?_)
                  | ((with_reducible (show wpList _ _ _ (Oper.mk (some 16) (Op.alloc _) _ _ _ _ :: _) _ _)); refine wpList_alloc_st (o := ⟨some 16, .alloc _, _, _, _, _⟩) rfl _ rfl zc_impl_Completion HS ?_; clear HS; intro w16 b16 hb16 HS)
                  | ((with_reducible (show wpList _ _ _ (Oper.mk (some 17) (Op.alloc _) _ _ _ _ :: _) _ _)); refine wpList_alloc_st (o := ⟨some 17, .alloc _, _, _, _, _⟩) rfl _ rfl zc_impl_CompletionQueue HS ?_; clear HS; intro w17 b17 hb17 HS)
                  | ((with_reducible (show wpList _ _ _ (Oper.mk none (Op.store _ (.tmp 16) _) _ _ _ _ :: _) _ _)); refine wpList_store_st (o := ⟨none, .store _ (.tmp 16) _, _, _, _, _⟩) rfl _ _ _ rfl rfl (v := .agg (List.toArray _)) rfl HS tk sz_impl_Completion vcs rfx rfx (by simp) ?_ rfl; clear HS; intro w23_10 hz23_10 HS; simp only [nicL, Value.cells, List.append_nil] at HS)
                  | ((with_reducible (show wpList _ _ _ (Oper.mk none (Op.store _ (.tmp 17) _) _ _ _ _ :: _) _ _)); refine wpList_store_st (o := ⟨none, .store _ (.tmp 17) _, _, _, _, _⟩) rfl _ _ _ rfl rfl (v := .agg (List.toArray _)) rfl HS tk sz_impl_CompletionQueue vcs rfx rfx (by simp) ?_ rfl; clear HS; intro w23_11 hz23_11 HS; simp only [nicL, Value.cells, List.append_nil] at HS))
            · refine wp_region_fl HS (show Arr _ [rowA b4 _ _, rowA b8 _ _] from ary) (.early 0 (.early 1 (.early 2 (.early 3 (.early 4 (.early 5 (.early 6 (.forced 7 1 (.forced 8 1 (.forced 9 1 (.pure 10 (.pure 11 (.pure 12 (.pure 13 (.land 14 (.land 15 (.forced 16 2 (.forced 17 2 (.pure 18 .done))))))))))))))))))) [14, 15] (by kernel_rfl) (by as_aux_lemma => kernel_rfl) ?_
              intro hne
              clear HS
              try go_simp
              repeat' (first
                | (with_reducible refine wpF_forced ?_)
                | ((with_reducible (first | (show wpF _ _ _ _ _ (.early 0 _) _ _) | (show wpF _ _ _ _ _ (.early 3 _) _ _) | (show wpF _ _ _ _ _ (.early 4 _) _ _) | (show wpF _ _ _ _ _ (.early 5 _) _ _) | (show wpF _ _ _ _ _ (.early 6 _) _ _))); (first | (refine wpF_skipE rfl rfl ?_; (try go_simp)) | (refine wpF_early rfl rfl ?_; intro K hK; (first | go_big_quiet_op); (first | go_big_quiet_on | (refine ⟨_, fun _ => rfl, ?_⟩; go_big_quiet_on)))))
                | ((with_reducible ((show wpF _ _ _ _ _ (.early 1 _) _ _))); (first | (refine wpF_skipE rfl rfl ?_; (try go_simp)) | (refine wpF_early rfl rfl ?_; intro K hK; (first | ((refine quiet_loadA_st  _ _ rfl rfl tk ag_impl_Memory lit rfl ?_); (try go_simp)) | go_big_quiet_op); (first | go_big_quiet_on | (refine ⟨_, fun _ => rfl, ?_⟩; go_big_quiet_on)))))
                | ((with_reducible ((show wpF _ _ _ _ _ (.early 2 _) _ _))); (first | (refine wpF_skipE rfl rfl ?_; (try go_simp)) | (refine wpF_early rfl rfl ?_; intro K hK; (first | ((refine quiet_loadA_st  _ _ rfl rfl tk ag_impl_CompletionQueue lit rfl ?_); (try go_simp)) | go_big_quiet_op); (first | go_big_quiet_on | (refine ⟨_, fun _ => rfl, ?_⟩; go_big_quiet_on)))))
                | ((with_reducible ((show OneF _ _ _ _ _ 7 1 _ _ _))); (first | (refine oneF_skip rfl rfl ?_; (try go_simp)) | (refine oneF_1 rfl rfl ?_; intro wq Fq HS K hK; go_simp; (first | (go_at_call 12; (with_reducible refine (at_any _ codeD _ _ (hcode.ex HS.ex) (by omega) (by omega)).mono ?_); rintro e w' ⟨y, y0, y1, rfl, rfl⟩)); (try go_simp); refine hK _ _ _ ?_ (HS.take tk) ?_; (focus (exact stw HS)); clear HS hK K)))
                | ((with_reducible ((show OneF _ _ _ _ _ 8 1 _ _ _))); (first | (refine oneF_skip rfl rfl ?_; (try go_simp)) | (refine oneF_1 rfl rfl ?_; intro wq Fq HS K hK; go_simp; refine hK _ _ _ ?_ (HS.take tk) ?_; (focus (exact stw HS)); clear HS hK K)))
                | ((with_reducible ((show OneF _ _ _ _ _ 9 1 _ _ _))); (first | (refine oneF_skip rfl rfl ?_; (try go_simp)) | (refine oneF_1 rfl rfl ?_; intro wq Fq HS K hK; go_simp; (first | (go_at_call 13; obtain ⟨qs, hq1, hq2⟩ := CInv.put HSZ.out HC.out hp0 (cOk24 hp0 hp24 y0 y1); have HC2 := hid hq2; have HQ1 := hid hq1; clear hq1 hq2; (with_reducible refine (putCompletion_any _ _ L5 ps 0 64 rs qc n y 0 1 0 _ (HS.holds tk) (HS.holds tk) HPL.out (show i64ok 0 by unfold i64ok; omega) (HQC.out ▸ HQ1.out).symm).mono ?_); rintro e w' ⟨A70, c70, rfl, ho, hx⟩; replace HS := HS.own ho hx; clear ho hx; rw [HC2.out.2.1] at HS ⊢)); (try go_simp); refine hK _ _ _ ?_ (HS.take tk) ?_; (focus (exact stw HS)); clear HS hK K)))
                | ((with_reducible ((show wpF _ _ _ _ _ (.pure _ _) _ _))); (first | (refine wpF_skipP rfl rfl ?_; (try go_simp)) | (refine wpF_pure rfl rfl ?_; intro K hK; go_big_quiet_op; (first | go_big_quiet_on | (refine ⟨_, fun _ => rfl, ?_⟩; go_big_quiet_on)))))
                | ((with_reducible ((show wpF _ _ _ _ _ (.land 14 _) _ _))); (refine wpF_land rfl rfl zc_impl_Memory ?_; intro b13; (try go_simp)))
                | ((with_reducible ((show wpF _ _ _ _ _ (.land 15 _) _ _))); (refine wpF_land rfl rfl zc_impl_CompletionQueue ?_; intro b14; (try go_simp)))
                | ((with_reducible ((show OneF _ _ _ _ _ 16 2 _ _ _))); (first | (refine oneF_skip rfl rfl ?_; (try go_simp)) | (refine oneF_2 rfl rfl ?_; intro wq Fq HS K hK; (first | (refine wp_store_st  _ _ _ rfl rfl (v := .agg (List.toArray _)) rfl HS tk sz_impl_Memory vcs rfx rfx (by simp) ?_ rfl; clear HS; intro w17_16 hz17_16 HS; simp only [nicL, Value.cells, List.append_nil] at HS) | (refine wp_store_st  _ _ _ rfl rfl (v := .agg _) rfl HS tk sz_impl_Memory vcs rfx rfx (by simp) ?_ rfl; clear HS; intro w17_16 hz17_16 HS; simp only [nicL, Value.cells, List.append_nil] at HS)); (try go_simp); refine hK _ _ _ (HS.take tk) ?_; clear HS hK K)))
                | ((with_reducible ((show OneF _ _ _ _ _ 17 2 _ _ _))); (first | (refine oneF_skip rfl rfl ?_; (try go_simp)) | (refine oneF_2 rfl rfl ?_; intro wq Fq HS K hK; (first | (refine wp_store_st  _ _ _ rfl rfl (v := .agg (List.toArray _)) rfl HS tk sz_impl_CompletionQueue vcs rfx rfx (by simp) ?_ rfl; clear HS; intro w17_17 hz17_17 HS; simp only [nicL, Value.cells, List.append_nil] at HS) | (refine wp_store_st  _ _ _ rfl rfl (v := .agg _) rfl HS tk sz_impl_CompletionQueue vcs rfx rfx (by simp) ?_ rfl; clear HS; intro w17_17 hz17_17 HS; simp only [nicL, Value.cells, List.append_nil] at HS)); (try go_simp); refine hK _ _ _ (HS.take tk) ?_; clear HS hK K)))
                | (with_reducible refine wpF_done ?_))
              all_goals intro w9 HS
              all_goals
                go_wp2_with (first
                      | ((with_reducible (show wpList _ _ _ (Oper.mk none (Op.store _ (.tmp 4) _) _ _ _ _ :: _) _ _)); refine wpList_store_st (o := ⟨none, .store _ (.tmp 4) _, _, _, _, _⟩) rfl _ _ _ rfl rfl (v := .agg (List.toArray _)) rfl HS tk sz_impl_Memory vcs rfx rfx (by simp) ?_ rfl; clear HS; intro w3_10 hz3_10 HS; simp only [nicL, Value.cells, List.append_nil] at HS)
                      | ((with_reducible (show wpList _ _ _ (Oper.mk none (Op.store _ (.tmp 8) _) _ _ _ _ :: _) _ _)); refine wpList_store_st (o := ⟨none, .store _ (.tmp 8) _, _, _, _, _⟩) rfl _ _ _ rfl rfl (v := .agg (List.toArray _)) rfl HS tk sz_impl_CompletionQueue vcs rfx rfx (by simp) ?_ rfl; clear HS; intro w9_4 hz9_4 HS; simp only [nicL, Value.cells, List.append_nil] at HS)
                      | ((with_reducible (show wpList _ _ _ (Oper.mk (some 76) (Op.load _ _) _ _ _ _ :: _) _ _)); refine wpList_loadA_st (o := ⟨some 76, .load _ _, _, _, _, _⟩) rfl _ _ rfl rfl HS tk ag_impl_Memory lit rfl ?_)
                      | ((with_reducible (show wpList _ _ _ (Oper.mk (some 77) (Op.load _ _) _ _ _ _ :: _) _ _)); refine wpList_loadA_st (o := ⟨some 77, .load _ _, _, _, _, _⟩) rfl _ _ rfl rfl HS tk ag_impl_CompletionQueue lit rfl ?_))
                go_roundw
                case rel => exact ⟨n, n + 1, k + 1, (n + 1) % (2 * rs), dc, qs, A70, c70, by omega, by omega, by omega, by omega, by omega, hid rfl, HDC, HC2, rfl, by go_num, by go_num, (HS.arr (by repeat (first | exact Arr.nil | (with_reducible exact take_all _) | (refine Arr.cons tk ?_) | (refine arr_skip ?_))))⟩
                case measure => simp [intOf]; omega
            · go_roundw
              case rel => exact ⟨n, n, k + 1, qc, dc, ps, A3, c3, by omega, by omega, by omega, by omega, by omega, HQC, HDC, HC, rfl, rfl, by go_num, (HS.arr (by repeat (first | exact Arr.nil | (with_reducible exact take_all _) | (refine Arr.cons tk ?_) | (refine arr_skip ?_))))⟩
              case measure => simp [intOf]; omega
        case neg =>
          obtain rfl : k = 24 := by omega
          have HO1 : Hid (queueOkB 64 rs qc = true) := hid (by rw [HQC.out]; exact qok HSZ.out (by rcases HSZ.out with h | h | h <;> rw [h] <;> omega) (by rcases HSZ.out with h | h | h <;> rw [h] <;> omega))
          have HO2 : Hid (queueOkB 64 rs dc = true) := hid (by rw [HDC.out]; exact qok HSZ.out (by rcases HSZ.out with h | h | h <;> rw [h] <;> omega) (by rcases HSZ.out with h | h | h <;> rw [h] <;> omega))
          by_cases hz : 0 < p
          case pos =>
            go_wp2_with (first
                  | (go_at_call 15; (with_reducible refine (queueOk_any 64 rs _ _).mono ?_); rintro e w' ⟨rfl, hx⟩; replace HS := HS.grow hx; clear hx; first | rw [HO1.out] | rw [HO2.out])
                  | ((with_reducible (show wpList _ _ _ (Oper.mk (some 106) (Op.load _ _) _ _ _ _ :: _) _ _)); refine wpList_loadA_st (o := ⟨some 106, .load _ _, _, _, _, _⟩) rfl _ _ rfl rfl HS tk ag_impl_CompletionQueue lit rfl ?_)
                  | ((with_reducible (show wpList _ _ _ (Oper.mk (some 109) (Op.load _ _) _ _ _ _ :: _) _ _)); refine wpList_loadA_st (o := ⟨some 109, .load _ _, _, _, _, _⟩) rfl _ _ rfl rfl HS tk ag_impl_CompletionQueue lit rfl ?_))
            go_ret
            exact ⟨rfl, HS.ex⟩
          case neg =>
            obtain rfl : p = 0 := by omega
            obtain rfl : n = 0 := by omega
            obtain rfl : dc = 0 := by rw [HDC.out, Int.zero_emod]
            obtain rfl : qc = 0 := by rw [HQC.out, Int.zero_emod]
            go_wp2_with (first
                  | (go_at_call 15; (with_reducible refine (queueOk_any 64 rs _ _).mono ?_); rintro e w' ⟨rfl, hx⟩; replace HS := HS.grow hx; clear hx; first | rw [HO1.out] | rw [HO2.out])
                  | ((with_reducible (show wpList _ _ _ (Oper.mk (some 106) (Op.load _ _) _ _ _ _ :: _) _ _)); refine wpList_loadA_st (o := ⟨some 106, .load _ _, _, _, _, _⟩) rfl _ _ rfl rfl HS tk ag_impl_CompletionQueue lit rfl ?_)
                  | ((with_reducible (show wpList _ _ _ (Oper.mk (some 109) (Op.load _ _) _ _ _ _ :: _) _ _)); refine wpList_loadA_st (o := ⟨some 109, .load _ _, _, _, _, _⟩) rfl _ _ rfl rfl HS tk ag_impl_CompletionQueue lit rfl ?_)
                  | ((with_reducible (show wpList _ _ _ (Oper.mk (some 120) (Op.load _ _) _ _ _ _ :: _) _ _)); refine wpList_loadA_st (o := ⟨some 120, .load _ _, _, _, _, _⟩) rfl _ _ rfl rfl HS tk ag_impl_CompletionQueue lit rfl ?_)
                  | ((with_reducible (show wpList _ _ _ (Oper.mk (some 121) (Op.load _ _) _ _ _ _ :: _) _ _)); refine wpList_loadA_st (o := ⟨some 121, .load _ _, _, _, _, _⟩) rfl _ _ rfl rfl HS tk ag_impl_CompletionQueue lit rfl ?_))
            go_ret
            exact ⟨rfl, HS.ex⟩

end Go.Proofs.Ytelkplponnfkpaa
