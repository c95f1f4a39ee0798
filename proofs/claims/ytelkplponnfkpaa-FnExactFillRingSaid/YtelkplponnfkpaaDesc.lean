/- Descriptors: whether one is valid, its bytes, and back: the program and the reference. -/
import Derived.Test.YtelkplponnfkpaaRows
import Derived.Test.YtelkplponnfkpaaMemG
import Derived.Test.YtelkplponnfkpaaComp
import Derived.Test.YtelkplponnfkpaaMLaw
import Derived.Test.YtelkplponnfkpaaLit
import Derived.Test.YtelkplponnfkpaaTk
namespace Go.Proofs.Ytelkplponnfkpaa
open Go.RowKit
set_option linter.unusedVariables false
set_option linter.unusedSimpArgs false

def descB (op fl ln at_ sz ck : Int) : Bool := inB op 0 3 && inB fl 0 3 && inB ln 0 65535 && inB sz 0 65535 && inB ck 0 65535 && inB at_ 0 4294967295
theorem descB_iff {op fl ln at_ sz ck : Int} : descB op fl ln at_ sz ck = true ↔ (0 ≤ op ∧ op ≤ 3) ∧ (0 ≤ fl ∧ fl ≤ 3) ∧ (0 ≤ ln ∧ ln ≤ 65535) ∧ (0 ≤ sz ∧ sz ≤ 65535) ∧ (0 ≤ ck ∧ ck ≤ 65535) ∧ 0 ≤ at_ ∧ at_ ≤ 4294967295 := by
  simp only [descB, Bool.and_eq_true, inB_iff, and_assoc]
theorem nums2_cells {a b : Int} (h1 : 0 ≤ a ∧ a ≤ 3) (h2 : 0 ≤ b ∧ b ≤ 3) : [Value.int .u8 a, .int .u8 b] = byteCells (strOfNums [a, b]) := by
  obtain ⟨n, rfl⟩ := Int.eq_ofNat_of_zero_le h1.1
  obtain ⟨m, rfl⟩ := Int.eq_ofNat_of_zero_le h2.1
  simp [byteCells, strOfNums]
  omega
def encD (op fl ln at_ sz ck : Int) : ByteArray := strOfNums [op, fl] ++ word16 ln ++ word32 at_ ++ word16 sz ++ word16 ck ++ word32 0
def encDF (op fl ln at_ sz ck : Int) : ByteArray := if descB op fl ln at_ sz ck then encD op fl ln at_ sz ck else ⟨#[]⟩
theorem encD_size {op fl ln at_ sz ck : Int} (h : descB op fl ln at_ sz ck = true) : (encD op fl ln at_ sz ck).size = 16 := by
  obtain ⟨-, -, h1, h2, h3, h4⟩ := descB_iff.1 h
  have a1 := word16_size (inB_iff.2 h1); have a2 := word16_size (inB_iff.2 h2); have a3 := word16_size (inB_iff.2 h3); have a4 := word32_size (inB_iff.2 h4)
  have a5 := word32_size (v := 0) (by decide)
  unfold encD
  simp only [ByteArray.size_append, strOfNums_size, a1, a2, a3, a4, a5]; rfl

set_option maxHeartbeats 1600000 in
theorem descOk_any (op fl ln at_ sz ck : Int) (w : World) :
    Calls Try.prog 140 #[.agg #[.int .i64 op, .int .i64 fl, .int .i64 ln, .int .i64 at_, .int .i64 sz, .int .i64 ck]] w fun e w' => e = .returned (.bool (descB op fl ln at_ sz ck)) ∧ Ex w w' := by
  go_enter Try.func140, Try.ntmps140
  go_wp2
  all_goals go_ret
  all_goals exact ⟨ret_bool (by rw [Bool.eq_iff_iff]; simp [descB, inB] <;> omega), (Ex.refl _).alloc _⟩

set_option maxRecDepth 100000 in
set_option maxHeartbeats 4000000 in
theorem encodeDesc_any (op fl ln at_ sz ck : Int) (w : World) :
    Calls Try.prog 102 #[.agg #[.int .i64 op, .int .i64 fl, .int .i64 ln, .int .i64 at_, .int .i64 sz, .int .i64 ck]] w fun e w' => e = .returned (.string (encDF op fl ln at_ sz ck)) ∧ Ex w w' := by
  cases h : descB op fl ln at_ sz ck
  case false =>
    have HQ := hid h
    have HM : Hid (encDF op fl ln at_ sz ck = ⟨#[]⟩) := hid (by unfold encDF; rw [h]; rfl)
    clear h
    have HS := St.start w
    go_enter Try.func102, Try.ntmps102
    go_wp2_with (first
          | (go_at_call 140; (with_reducible refine (descOk_any op fl ln at_ sz ck _).mono ?_); rintro e w' ⟨rfl, hx⟩; rw [HQ.out]; replace HS := HS.grow hx; clear hx)
          | ((with_reducible (show wpList _ _ _ (Oper.mk (some 1) (Op.box _ _) _ _ _ _ :: _) _ _)); refine wpList_box_st (o := ⟨some 1, .box _ _, _, _, _, _⟩) rfl _ _ rfl (v := .agg (List.toArray _)) rfl HS ?_; clear HS; intro w1 b1 hb1 HS; simp only [Value.cells] at HS)
          | ((with_reducible (show wpList _ _ _ (Oper.mk (some 1) (Op.box _ _) _ _ _ _ :: _) _ _)); refine wpList_box_st (o := ⟨some 1, .box _ _, _, _, _, _⟩) rfl _ _ rfl (v := .agg _) rfl HS ?_; clear HS; intro w1 b1 hb1 HS; simp only [Value.cells] at HS)
          | ((with_reducible (show wpList _ _ _ (Oper.mk (some 3) (Op.load _ _) _ _ _ _ :: _) _ _)); refine wpList_loadA_st (o := ⟨some 3, .load _ _, _, _, _, _⟩) rfl _ _ rfl rfl HS tk ag_impl_Desc lit rfl ?_))
    go_ret
    exact ⟨ret_str HM.out.symm, HS.ex⟩
  case true =>
    have HQ := hid h
    have HM : Hid (encDF op fl ln at_ sz ck = encD op fl ln at_ sz ck) := hid (by unfold encDF; rw [h]; rfl)
    obtain ⟨h1, h2, h3, h4, h5, h6⟩ := descB_iff.1 h
    have z1 := word16_size (inB_iff.2 h3)
    have z2 := word16_size (inB_iff.2 h4)
    have z3 := word16_size (inB_iff.2 h5)
    have z4 := word32_size (inB_iff.2 h6)
    have z5 := word32_size (v := 0) (by decide)
    have z0 : (strOfNums [op, fl]).size = 2 := strOfNums_size _
    have HB : Hid ([.int .u8 op, .int .u8 fl] = byteCells (strOfNums [op, fl])) := hid (nums2_cells h1 h2)
    obtain ⟨h7, h8⟩ := h1
    obtain ⟨h9, h10⟩ := h2
    clear h h3 h4 h5 h6
    have HS := St.start w
    go_enter Try.func102, Try.ntmps102
    go_wp2_with (first
          | (go_at_call 140; (with_reducible refine (descOk_any op fl ln at_ sz ck _).mono ?_); rintro e w' ⟨rfl, hx⟩; rw [HQ.out]; replace HS := HS.grow hx; clear hx)
          | ((with_reducible (show wpList _ _ _ (Oper.mk (some 1) (Op.box _ _) _ _ _ _ :: _) _ _)); refine wpList_box_st (o := ⟨some 1, .box _ _, _, _, _, _⟩) rfl _ _ rfl (v := .agg (List.toArray _)) rfl HS ?_; clear HS; intro w1 b1 hb1 HS; simp only [Value.cells] at HS)
          | ((with_reducible (show wpList _ _ _ (Oper.mk (some 1) (Op.box _ _) _ _ _ _ :: _) _ _)); refine wpList_box_st (o := ⟨some 1, .box _ _, _, _, _, _⟩) rfl _ _ rfl (v := .agg _) rfl HS ?_; clear HS; intro w1 b1 hb1 HS; simp only [Value.cells] at HS)
          | ((with_reducible (show wpList _ _ _ (Oper.mk (some 3) (Op.load _ _) _ _ _ _ :: _) _ _)); refine wpList_loadA_st (o := ⟨some 3, .load _ _, _, _, _, _⟩) rfl _ _ rfl rfl HS tk ag_impl_Desc lit rfl ?_))
    refine wp_region_plan_st HS (.early 0 (.early 1 (.early 2 (.early 3 (.early 4 (.early 5 (.early 8 (.early 9 (.early 12 (.early 13 (.early 16 (.early 17 (.early 20 (.early 21 (.fork 6 1 (.fork 7 1 (.forced 10 1 (.early 11 (.forced 14 1 (.early 15 (.forced 18 1 (.early 19 (.forced 22 1 (.pure 23 (.forced 24 1 (.forced 25 2 (.forced 26 2 .done))))))))))) 10 1 (.fork 7 1 (.early 11 (.forced 14 1 (.early 15 (.forced 18 1 (.early 19 (.forced 22 1 (.pure 23 (.forced 24 1 (.forced 25 2 (.forced 26 2 .done)))))))))) 14 1 (.fork 7 1 (.early 11 (.early 15 (.forced 18 1 (.early 19 (.forced 22 1 (.pure 23 (.forced 24 1 (.forced 25 2 (.forced 26 2 .done))))))))) 18 1 (.fork 7 1 (.early 11 (.early 15 (.early 19 (.forced 22 1 (.pure 23 (.forced 24 1 (.forced 25 2 (.forced 26 2 .done)))))))) 22 1 (.fork 7 1 (.early 11 (.early 15 (.early 19 (.pure 23 (.forced 24 1 (.forced 25 2 (.forced 26 2 .done))))))) 24 1 (.forced 7 1 (.forced 11 1 (.forced 15 1 (.forced 19 1 (.forced 23 2 (.forced 25 2 (.forced 26 2 .done)))))))))))) 10 1 (.fork 6 1 (.fork 7 1 (.early 11 (.forced 14 1 (.early 15 (.forced 18 1 (.early 19 (.forced 22 1 (.pure 23 (.forced 24 1 (.forced 25 2 (.forced 26 2 .done)))))))))) 14 1 (.fork 7 1 (.early 11 (.early 15 (.forced 18 1 (.early 19 (.forced 22 1 (.pure 23 (.forced 24 1 (.forced 25 2 (.forced 26 2 .done))))))))) 18 1 (.fork 7 1 (.early 11 (.early 15 (.early 19 (.forced 22 1 (.pure 23 (.forced 24 1 (.forced 25 2 (.forced 26 2 .done)))))))) 22 1 (.fork 7 1 (.early 11 (.early 15 (.early 19 (.pure 23 (.forced 24 1 (.forced 25 2 (.forced 26 2 .done))))))) 24 1 (.forced 7 1 (.forced 11 1 (.forced 15 1 (.forced 19 1 (.forced 23 2 (.forced 25 2 (.forced 26 2 .done))))))))))) 14 1 (.fork 6 1 (.fork 7 1 (.early 11 (.early 15 (.forced 18 1 (.early 19 (.forced 22 1 (.pure 23 (.forced 24 1 (.forced 25 2 (.forced 26 2 .done))))))))) 18 1 (.fork 7 1 (.early 11 (.early 15 (.early 19 (.forced 22 1 (.pure 23 (.forced 24 1 (.forced 25 2 (.forced 26 2 .done)))))))) 22 1 (.fork 7 1 (.early 11 (.early 15 (.early 19 (.pure 23 (.forced 24 1 (.forced 25 2 (.forced 26 2 .done))))))) 24 1 (.forced 7 1 (.forced 11 1 (.forced 15 1 (.forced 19 1 (.forced 23 2 (.forced 25 2 (.forced 26 2 .done)))))))))) 18 1 (.fork 6 1 (.fork 7 1 (.early 11 (.early 15 (.early 19 (.forced 22 1 (.pure 23 (.forced 24 1 (.forced 25 2 (.forced 26 2 .done)))))))) 22 1 (.fork 7 1 (.early 11 (.early 15 (.early 19 (.pure 23 (.forced 24 1 (.forced 25 2 (.forced 26 2 .done))))))) 24 1 (.forced 7 1 (.forced 11 1 (.forced 15 1 (.forced 19 1 (.forced 23 2 (.forced 25 2 (.forced 26 2 .done))))))))) 22 1 (.fork 6 1 (.fork 7 1 (.early 11 (.early 15 (.early 19 (.pure 23 (.forced 24 1 (.forced 25 2 (.forced 26 2 .done))))))) 24 1 (.forced 7 1 (.forced 11 1 (.forced 15 1 (.forced 19 1 (.forced 23 2 (.forced 25 2 (.forced 26 2 .done)))))))) 24 1 (.forced 6 1 (.forced 7 1 (.forced 11 1 (.forced 15 1 (.forced 19 1 (.forced 23 2 (.forced 25 2 (.forced 26 2 .done))))))))))))))))))))))))))) (by kernel_rfl) (by as_aux_lemma => kernel_rfl) ?_
    intro hne
    replace HS := HS.drew
    try go_simp
    repeat' (first
      | (with_reducible refine wpPlan_fork ?_ ?_)
      | (with_reducible refine wpPlan_forced ?_)
      | ((with_reducible (first | (show wpPlan _ _ _ _ (.early 0 _) _ _) | (show wpPlan _ _ _ _ (.early 2 _) _ _) | (show wpPlan _ _ _ _ (.early 3 _) _ _) | (show wpPlan _ _ _ _ (.early 5 _) _ _) | (show wpPlan _ _ _ _ (.early 8 _) _ _) | (show wpPlan _ _ _ _ (.early 12 _) _ _) | (show wpPlan _ _ _ _ (.early 16 _) _ _) | (show wpPlan _ _ _ _ (.early 20 _) _ _) | (show wpPlan _ _ _ _ (.early 11 _) _ _) | (show wpPlan _ _ _ _ (.early 15 _) _ _) | (show wpPlan _ _ _ _ (.early 19 _) _ _))); (first | (refine wpPlan_skipE rfl rfl ?_; (try go_simp)) | (refine wpPlan_early rfl rfl ?_; intro K hK; (first | go_big_quiet_op); (first | go_big_quiet_on | (refine ⟨_, fun _ => rfl, ?_⟩; go_big_quiet_on)))))
      | ((with_reducible (first | (show wpPlan _ _ _ _ (.early 1 _) _ _) | (show wpPlan _ _ _ _ (.early 4 _) _ _) | (show wpPlan _ _ _ _ (.early 9 _) _ _) | (show wpPlan _ _ _ _ (.early 13 _) _ _) | (show wpPlan _ _ _ _ (.early 17 _) _ _) | (show wpPlan _ _ _ _ (.early 21 _) _ _))); (first | (refine wpPlan_skipE rfl rfl ?_; (try go_simp)) | (refine wpPlan_early rfl rfl ?_; intro K hK; (first | ((refine quiet_loadS_st  _ _ rfl rfl tk sc_int rfx ?_); (try go_simp)) | go_big_quiet_op); (first | go_big_quiet_on | (refine ⟨_, fun _ => rfl, ?_⟩; go_big_quiet_on)))))
      | ((with_reducible ((show wpOne _ _ _ _ 6 1 _ _ _))); (first | (refine wpOne_skip rfl rfl ?_; (try go_simp)) | (refine wpOne_1 rfl rfl ?_; intro K hK; (first | (refine wp_bsliceN_st  _ _ _ rfl _ Try.underlying22 in_uint8 (by decide) [.tmp 8, .tmp 11] rfl rfl (by decide) (by decide) (vs := [.int .u8 _, .int .u8 _]) rfl rfx (cs := [.int .u8 _, .int .u8 _]) rfx HS ?_; clear HS; intro w12 b12 hb12 HS)); replace HS := HS.rowByt tk (strOfNums [op, fl]) (HB.out); (try go_simp); refine hK _ _ ?_ ?_; (focus (exact stw HS)); clear hK K)))
      | ((with_reducible ((show wpOne _ _ _ _ 7 1 _ _ _))); (first | (refine wpOne_skip rfl rfl ?_; (try go_simp)) | (refine wpOne_1 rfl rfl ?_; intro K hK; (first | (refine wp_back_st  _ _ _ rfl _ Try.underlying22 Try.underlying5 Try.underlying9 rfl HS tk rfx ?_)); (try go_simp); refine hK _ _ ?_ ?_; (focus (exact stw HS)); clear hK K)))
      | ((with_reducible (first | (show wpOne _ _ _ _ 10 1 _ _ _) | (show wpOne _ _ _ _ 18 1 _ _ _) | (show wpOne _ _ _ _ 22 1 _ _ _))); (first | (refine wpOne_skip rfl rfl ?_; (try go_simp)) | (refine wpOne_1 rfl rfl ?_; intro K hK; go_simp; (first | (go_at_call 117; (with_reducible refine (word16_any _ _).mono ?_); rintro e w' ⟨rfl, hx⟩; replace HS := HS.grow hx; clear hx)); (try go_simp); refine hK _ _ ?_ ?_; (focus (exact stw HS)); clear hK K)))
      | ((with_reducible (first | (show wpOne _ _ _ _ 14 1 _ _ _) | (show wpOne _ _ _ _ 24 1 _ _ _))); (first | (refine wpOne_skip rfl rfl ?_; (try go_simp)) | (refine wpOne_1 rfl rfl ?_; intro K hK; go_simp; (first | (go_at_call 118; (with_reducible refine (word32_any _ _).mono ?_); rintro e w' ⟨rfl, hx⟩; replace HS := HS.grow hx; clear hx)); (try go_simp); refine hK _ _ ?_ ?_; (focus (exact stw HS)); clear hK K)))
      | ((with_reducible ((show wpPlan _ _ _ _ (.pure _ _) _ _))); (first | (refine wpPlan_skipP rfl rfl ?_; (try go_simp)) | (refine wpPlan_pure rfl rfl ?_; intro K hK; go_big_quiet_op; (first | go_big_quiet_on | (refine ⟨_, fun _ => rfl, ?_⟩; go_big_quiet_on)))))
      | ((with_reducible (first | (show wpOne _ _ _ _ 25 2 _ _ _) | (show wpOne _ _ _ _ 26 2 _ _ _) | (show wpOne _ _ _ _ 23 2 _ _ _))); (first | (refine wpOne_skip rfl rfl ?_; (try go_simp)) | (refine wpOne_2 rfl rfl ?_; intro K hK; go_simp; refine hK _ _ ?_; clear hK K)))
      | ((with_reducible (first | (show wpOne _ _ _ _ 11 1 _ _ _) | (show wpOne _ _ _ _ 15 1 _ _ _) | (show wpOne _ _ _ _ 19 1 _ _ _))); (first | (refine wpOne_skip rfl rfl ?_; (try go_simp)) | (refine wpOne_1 rfl rfl ?_; intro K hK; go_simp; refine hK _ _ ?_ ?_; (focus (exact stw HS)); clear hK K)))
      | (with_reducible refine wpPlan_done ?_))
    all_goals
      go_wp2_with (first
            | ((with_reducible (show wpList _ _ _ (Oper.mk (some 1) (Op.box _ _) _ _ _ _ :: _) _ _)); refine wpList_box_st (o := ⟨some 1, .box _ _, _, _, _, _⟩) rfl _ _ rfl (v := .agg (List.toArray _)) rfl HS ?_; clear HS; intro w1 b1 hb1 HS; simp only [Value.cells] at HS)
            | ((with_reducible (show wpList _ _ _ (Oper.mk (some 1) (Op.box _ _) _ _ _ _ :: _) _ _)); refine wpList_box_st (o := ⟨some 1, .box _ _, _, _, _, _⟩) rfl _ _ rfl (v := .agg _) rfl HS ?_; clear HS; intro w1 b1 hb1 HS; simp only [Value.cells] at HS)
            | ((with_reducible (show wpList _ _ _ (Oper.mk (some 3) (Op.load _ _) _ _ _ _ :: _) _ _)); refine wpList_loadA_st (o := ⟨some 3, .load _ _, _, _, _, _⟩) rfl _ _ rfl rfl HS tk ag_impl_Desc lit rfl ?_))
      go_ret
      exact ⟨ret_str HM.out.symm, HS.ex⟩

set_option maxHeartbeats 1600000 in
theorem descOkS_any (op fl ln at_ sz ck : Int) (w : World) :
    Calls Try.prog 139 #[.agg #[.int .i64 op, .int .i64 fl, .int .i64 ln, .int .i64 at_, .int .i64 sz, .int .i64 ck]] w fun e w' => e = .returned (.bool (descB op fl ln at_ sz ck)) ∧ Ex w w' := by
  go_enter Try.func139, Try.ntmps139
  go_wp2
  all_goals go_ret
  all_goals exact ⟨ret_bool (by rw [Bool.eq_iff_iff]; simp [descB, inB] <;> omega), (Ex.refl _).alloc _⟩

set_option maxRecDepth 100000 in
set_option maxHeartbeats 4000000 in
theorem encodeDescS_any (op fl ln at_ sz ck : Int) (w : World) :
    Calls Try.prog 97 #[.agg #[.int .i64 op, .int .i64 fl, .int .i64 ln, .int .i64 at_, .int .i64 sz, .int .i64 ck]] w fun e w' => e = .returned (.string (encDF op fl ln at_ sz ck)) ∧ Ex w w' := by
  cases h : descB op fl ln at_ sz ck
  case false =>
    have HQ := hid h
    have HM : Hid (encDF op fl ln at_ sz ck = ⟨#[]⟩) := hid (by unfold encDF; rw [h]; rfl)
    clear h
    have HS := St.start w
    go_enter Try.func97, Try.ntmps97
    go_wp2_with (first
          | (go_at_call 139; (with_reducible refine (descOkS_any op fl ln at_ sz ck _).mono ?_); rintro e w' ⟨rfl, hx⟩; rw [HQ.out]; replace HS := HS.grow hx; clear hx)
          | ((with_reducible (show wpList _ _ _ (Oper.mk (some 1) (Op.box _ _) _ _ _ _ :: _) _ _)); refine wpList_box_st (o := ⟨some 1, .box _ _, _, _, _, _⟩) rfl _ _ rfl (v := .agg (List.toArray _)) rfl HS ?_; clear HS; intro w1 b1 hb1 HS; simp only [Value.cells] at HS)
          | ((with_reducible (show wpList _ _ _ (Oper.mk (some 1) (Op.box _ _) _ _ _ _ :: _) _ _)); refine wpList_box_st (o := ⟨some 1, .box _ _, _, _, _, _⟩) rfl _ _ rfl (v := .agg _) rfl HS ?_; clear HS; intro w1 b1 hb1 HS; simp only [Value.cells] at HS)
          | ((with_reducible (show wpList _ _ _ (Oper.mk (some 3) (Op.load _ _) _ _ _ _ :: _) _ _)); refine wpList_loadA_st (o := ⟨some 3, .load _ _, _, _, _, _⟩) rfl _ _ rfl rfl HS tk ag_impl_Desc lit rfl ?_))
    go_ret
    exact ⟨ret_str HM.out.symm, HS.ex⟩
  case true =>
    have HQ := hid h
    have HM : Hid (encDF op fl ln at_ sz ck = encD op fl ln at_ sz ck) := hid (by unfold encDF; rw [h]; rfl)
    obtain ⟨h1, h2, h3, h4, h5, h6⟩ := descB_iff.1 h
    have z1 := word16_size (inB_iff.2 h3)
    have z2 := word16_size (inB_iff.2 h4)
    have z3 := word16_size (inB_iff.2 h5)
    have z4 := word32_size (inB_iff.2 h6)
    have z5 := word32_size (v := 0) (by decide)
    have z0 : (strOfNums [op, fl]).size = 2 := strOfNums_size _
    have HB : Hid ([.int .u8 op, .int .u8 fl] = byteCells (strOfNums [op, fl])) := hid (nums2_cells h1 h2)
    obtain ⟨h7, h8⟩ := h1
    obtain ⟨h9, h10⟩ := h2
    clear h h3 h4 h5 h6
    have HS := St.start w
    go_enter Try.func97, Try.ntmps97
    go_wp2_with (first
          | (go_at_call 139; (with_reducible refine (descOkS_any op fl ln at_ sz ck _).mono ?_); rintro e w' ⟨rfl, hx⟩; rw [HQ.out]; replace HS := HS.grow hx; clear hx)
          | ((with_reducible (show wpList _ _ _ (Oper.mk (some 1) (Op.box _ _) _ _ _ _ :: _) _ _)); refine wpList_box_st (o := ⟨some 1, .box _ _, _, _, _, _⟩) rfl _ _ rfl (v := .agg (List.toArray _)) rfl HS ?_; clear HS; intro w1 b1 hb1 HS; simp only [Value.cells] at HS)
          | ((with_reducible (show wpList _ _ _ (Oper.mk (some 1) (Op.box _ _) _ _ _ _ :: _) _ _)); refine wpList_box_st (o := ⟨some 1, .box _ _, _, _, _, _⟩) rfl _ _ rfl (v := .agg _) rfl HS ?_; clear HS; intro w1 b1 hb1 HS; simp only [Value.cells] at HS)
          | ((with_reducible (show wpList _ _ _ (Oper.mk (some 3) (Op.load _ _) _ _ _ _ :: _) _ _)); refine wpList_loadA_st (o := ⟨some 3, .load _ _, _, _, _, _⟩) rfl _ _ rfl rfl HS tk ag_impl_Desc lit rfl ?_))
    refine wp_region_plan_st HS (.early 0 (.early 1 (.early 2 (.early 3 (.early 4 (.early 5 (.early 8 (.early 9 (.early 12 (.early 13 (.early 16 (.early 17 (.early 20 (.early 21 (.fork 6 1 (.fork 7 1 (.forced 10 1 (.early 11 (.forced 14 1 (.early 15 (.forced 18 1 (.early 19 (.forced 22 1 (.pure 23 (.forced 24 1 (.forced 25 2 (.forced 26 2 .done))))))))))) 10 1 (.fork 7 1 (.early 11 (.forced 14 1 (.early 15 (.forced 18 1 (.early 19 (.forced 22 1 (.pure 23 (.forced 24 1 (.forced 25 2 (.forced 26 2 .done)))))))))) 14 1 (.fork 7 1 (.early 11 (.early 15 (.forced 18 1 (.early 19 (.forced 22 1 (.pure 23 (.forced 24 1 (.forced 25 2 (.forced 26 2 .done))))))))) 18 1 (.fork 7 1 (.early 11 (.early 15 (.early 19 (.forced 22 1 (.pure 23 (.forced 24 1 (.forced 25 2 (.forced 26 2 .done)))))))) 22 1 (.fork 7 1 (.early 11 (.early 15 (.early 19 (.pure 23 (.forced 24 1 (.forced 25 2 (.forced 26 2 .done))))))) 24 1 (.forced 7 1 (.forced 11 1 (.forced 15 1 (.forced 19 1 (.forced 23 2 (.forced 25 2 (.forced 26 2 .done)))))))))))) 10 1 (.fork 6 1 (.fork 7 1 (.early 11 (.forced 14 1 (.early 15 (.forced 18 1 (.early 19 (.forced 22 1 (.pure 23 (.forced 24 1 (.forced 25 2 (.forced 26 2 .done)))))))))) 14 1 (.fork 7 1 (.early 11 (.early 15 (.forced 18 1 (.early 19 (.forced 22 1 (.pure 23 (.forced 24 1 (.forced 25 2 (.forced 26 2 .done))))))))) 18 1 (.fork 7 1 (.early 11 (.early 15 (.early 19 (.forced 22 1 (.pure 23 (.forced 24 1 (.forced 25 2 (.forced 26 2 .done)))))))) 22 1 (.fork 7 1 (.early 11 (.early 15 (.early 19 (.pure 23 (.forced 24 1 (.forced 25 2 (.forced 26 2 .done))))))) 24 1 (.forced 7 1 (.forced 11 1 (.forced 15 1 (.forced 19 1 (.forced 23 2 (.forced 25 2 (.forced 26 2 .done))))))))))) 14 1 (.fork 6 1 (.fork 7 1 (.early 11 (.early 15 (.forced 18 1 (.early 19 (.forced 22 1 (.pure 23 (.forced 24 1 (.forced 25 2 (.forced 26 2 .done))))))))) 18 1 (.fork 7 1 (.early 11 (.early 15 (.early 19 (.forced 22 1 (.pure 23 (.forced 24 1 (.forced 25 2 (.forced 26 2 .done)))))))) 22 1 (.fork 7 1 (.early 11 (.early 15 (.early 19 (.pure 23 (.forced 24 1 (.forced 25 2 (.forced 26 2 .done))))))) 24 1 (.forced 7 1 (.forced 11 1 (.forced 15 1 (.forced 19 1 (.forced 23 2 (.forced 25 2 (.forced 26 2 .done)))))))))) 18 1 (.fork 6 1 (.fork 7 1 (.early 11 (.early 15 (.early 19 (.forced 22 1 (.pure 23 (.forced 24 1 (.forced 25 2 (.forced 26 2 .done)))))))) 22 1 (.fork 7 1 (.early 11 (.early 15 (.early 19 (.pure 23 (.forced 24 1 (.forced 25 2 (.forced 26 2 .done))))))) 24 1 (.forced 7 1 (.forced 11 1 (.forced 15 1 (.forced 19 1 (.forced 23 2 (.forced 25 2 (.forced 26 2 .done))))))))) 22 1 (.fork 6 1 (.fork 7 1 (.early 11 (.early 15 (.early 19 (.pure 23 (.forced 24 1 (.forced 25 2 (.forced 26 2 .done))))))) 24 1 (.forced 7 1 (.forced 11 1 (.forced 15 1 (.forced 19 1 (.forced 23 2 (.forced 25 2 (.forced 26 2 .done)))))))) 24 1 (.forced 6 1 (.forced 7 1 (.forced 11 1 (.forced 15 1 (.forced 19 1 (.forced 23 2 (.forced 25 2 (.forced 26 2 .done))))))))))))))))))))))))))) (by kernel_rfl) (by as_aux_lemma => kernel_rfl) ?_
    intro hne
    replace HS := HS.drew
    try go_simp
    repeat' (first
      | (with_reducible refine wpPlan_fork ?_ ?_)
      | (with_reducible refine wpPlan_forced ?_)
      | ((with_reducible (first | (show wpPlan _ _ _ _ (.early 0 _) _ _) | (show wpPlan _ _ _ _ (.early 2 _) _ _) | (show wpPlan _ _ _ _ (.early 3 _) _ _) | (show wpPlan _ _ _ _ (.early 5 _) _ _) | (show wpPlan _ _ _ _ (.early 8 _) _ _) | (show wpPlan _ _ _ _ (.early 12 _) _ _) | (show wpPlan _ _ _ _ (.early 16 _) _ _) | (show wpPlan _ _ _ _ (.early 20 _) _ _) | (show wpPlan _ _ _ _ (.early 11 _) _ _) | (show wpPlan _ _ _ _ (.early 15 _) _ _) | (show wpPlan _ _ _ _ (.early 19 _) _ _))); (first | (refine wpPlan_skipE rfl rfl ?_; (try go_simp)) | (refine wpPlan_early rfl rfl ?_; intro K hK; (first | go_big_quiet_op); (first | go_big_quiet_on | (refine ⟨_, fun _ => rfl, ?_⟩; go_big_quiet_on)))))
      | ((with_reducible (first | (show wpPlan _ _ _ _ (.early 1 _) _ _) | (show wpPlan _ _ _ _ (.early 4 _) _ _) | (show wpPlan _ _ _ _ (.early 9 _) _ _) | (show wpPlan _ _ _ _ (.early 13 _) _ _) | (show wpPlan _ _ _ _ (.early 17 _) _ _) | (show wpPlan _ _ _ _ (.early 21 _) _ _))); (first | (refine wpPlan_skipE rfl rfl ?_; (try go_simp)) | (refine wpPlan_early rfl rfl ?_; intro K hK; (first | ((refine quiet_loadS_st  _ _ rfl rfl tk sc_int rfx ?_); (try go_simp)) | go_big_quiet_op); (first | go_big_quiet_on | (refine ⟨_, fun _ => rfl, ?_⟩; go_big_quiet_on)))))
      | ((with_reducible ((show wpOne _ _ _ _ 6 1 _ _ _))); (first | (refine wpOne_skip rfl rfl ?_; (try go_simp)) | (refine wpOne_1 rfl rfl ?_; intro K hK; (first | (refine wp_bsliceN_st  _ _ _ rfl _ Try.underlying22 in_uint8 (by decide) [.tmp 8, .tmp 11] rfl rfl (by decide) (by decide) (vs := [.int .u8 _, .int .u8 _]) rfl rfx (cs := [.int .u8 _, .int .u8 _]) rfx HS ?_; clear HS; intro w12 b12 hb12 HS)); replace HS := HS.rowByt tk (strOfNums [op, fl]) (HB.out); (try go_simp); refine hK _ _ ?_ ?_; (focus (exact stw HS)); clear hK K)))
      | ((with_reducible ((show wpOne _ _ _ _ 7 1 _ _ _))); (first | (refine wpOne_skip rfl rfl ?_; (try go_simp)) | (refine wpOne_1 rfl rfl ?_; intro K hK; (first | (refine wp_back_st  _ _ _ rfl _ Try.underlying22 Try.underlying5 Try.underlying9 rfl HS tk rfx ?_)); (try go_simp); refine hK _ _ ?_ ?_; (focus (exact stw HS)); clear hK K)))
      | ((with_reducible (first | (show wpOne _ _ _ _ 10 1 _ _ _) | (show wpOne _ _ _ _ 18 1 _ _ _) | (show wpOne _ _ _ _ 22 1 _ _ _))); (first | (refine wpOne_skip rfl rfl ?_; (try go_simp)) | (refine wpOne_1 rfl rfl ?_; intro K hK; go_simp; (first | (go_at_call 129; (with_reducible refine (word16S_any _ _).mono ?_); rintro e w' ⟨rfl, hx⟩; replace HS := HS.grow hx; clear hx)); (try go_simp); refine hK _ _ ?_ ?_; (focus (exact stw HS)); clear hK K)))
      | ((with_reducible (first | (show wpOne _ _ _ _ 14 1 _ _ _) | (show wpOne _ _ _ _ 24 1 _ _ _))); (first | (refine wpOne_skip rfl rfl ?_; (try go_simp)) | (refine wpOne_1 rfl rfl ?_; intro K hK; go_simp; (first | (go_at_call 130; (with_reducible refine (word32S_any _ _).mono ?_); rintro e w' ⟨rfl, hx⟩; replace HS := HS.grow hx; clear hx)); (try go_simp); refine hK _ _ ?_ ?_; (focus (exact stw HS)); clear hK K)))
      | ((with_reducible ((show wpPlan _ _ _ _ (.pure _ _) _ _))); (first | (refine wpPlan_skipP rfl rfl ?_; (try go_simp)) | (refine wpPlan_pure rfl rfl ?_; intro K hK; go_big_quiet_op; (first | go_big_quiet_on | (refine ⟨_, fun _ => rfl, ?_⟩; go_big_quiet_on)))))
      | ((with_reducible (first | (show wpOne _ _ _ _ 25 2 _ _ _) | (show wpOne _ _ _ _ 26 2 _ _ _) | (show wpOne _ _ _ _ 23 2 _ _ _))); (first | (refine wpOne_skip rfl rfl ?_; (try go_simp)) | (refine wpOne_2 rfl rfl ?_; intro K hK; go_simp; refine hK _ _ ?_; clear hK K)))
      | ((with_reducible (first | (show wpOne _ _ _ _ 11 1 _ _ _) | (show wpOne _ _ _ _ 15 1 _ _ _) | (show wpOne _ _ _ _ 19 1 _ _ _))); (first | (refine wpOne_skip rfl rfl ?_; (try go_simp)) | (refine wpOne_1 rfl rfl ?_; intro K hK; go_simp; refine hK _ _ ?_ ?_; (focus (exact stw HS)); clear hK K)))
      | (with_reducible refine wpPlan_done ?_))
    all_goals
      go_wp2_with (first
            | ((with_reducible (show wpList _ _ _ (Oper.mk (some 1) (Op.box _ _) _ _ _ _ :: _) _ _)); refine wpList_box_st (o := ⟨some 1, .box _ _, _, _, _, _⟩) rfl _ _ rfl (v := .agg (List.toArray _)) rfl HS ?_; clear HS; intro w1 b1 hb1 HS; simp only [Value.cells] at HS)
            | ((with_reducible (show wpList _ _ _ (Oper.mk (some 1) (Op.box _ _) _ _ _ _ :: _) _ _)); refine wpList_box_st (o := ⟨some 1, .box _ _, _, _, _, _⟩) rfl _ _ rfl (v := .agg _) rfl HS ?_; clear HS; intro w1 b1 hb1 HS; simp only [Value.cells] at HS)
            | ((with_reducible (show wpList _ _ _ (Oper.mk (some 3) (Op.load _ _) _ _ _ _ :: _) _ _)); refine wpList_loadA_st (o := ⟨some 3, .load _ _, _, _, _, _⟩) rfl _ _ rfl rfl HS tk ag_impl_Desc lit rfl ?_))
      go_ret
      exact ⟨ret_str HM.out.symm, HS.ex⟩

end Go.Proofs.Ytelkplponnfkpaa
