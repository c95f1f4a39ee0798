/- The laws' helpers over memories: copies, sizes, equality, marks. -/
import Derived.Test.YtelkplponnfkpaaRows
import Derived.Test.YtelkplponnfkpaaMLaw
import Derived.Test.YtelkplponnfkpaaTk
namespace Go.Proofs.Ytelkplponnfkpaa
open Go.RowKit
set_option linter.unusedVariables false
set_option linter.unusedSimpArgs false

theorem mtexts_step {ps : Pg} {K i : Nat} (h : i < ps.length) : (mtexts i K ++ ps.drop i).set i (mtext (K + i)) = mtexts (i + 1) K ++ ps.drop (i + 1) := by
  rw [List.set_append_right _ _ (by rw [mtexts_length]; exact Nat.le_refl _), mtexts_length, Nat.sub_self, List.drop_eq_getElem_cons h, List.set_cons_zero]
  unfold mtexts
  rw [List.range_succ, List.map_append, List.append_assoc]
  rfl
def totS (ps : Pg) : Nat := (ps.map (·.size)).sum
theorem totS_take (ps : Pg) (k : Nat) (h : k < ps.length) : totS (ps.take (k + 1)) = totS (ps.take k) + ps[k].size := by
  unfold totS; rw [List.take_succ_eq_append_getElem h, List.map_append, List.sum_append, List.map_singleton, List.sum_singleton]
theorem totS_take_le (ps : Pg) (k : Nat) : totS (ps.take k) ≤ totS ps := by
  have := congrArg totS (List.take_append_drop k ps)
  unfold totS at this ⊢
  rw [List.map_append, List.sum_append] at this; omega
theorem totS_all (ps : Pg) : totS (ps.take ps.length) = totS ps := by rw [List.take_length]
theorem nil_ok : Flat.ok (⟨#[]⟩ : ByteArray) := Nat.zero_le _

set_option maxRecDepth 100000 in
set_option maxHeartbeats 4000000 in
theorem toStringS_any (v : Value) (ps : Pg) (w : World) (k1 : Holds w ps [v]) (hl : ps.length ≤ 1099511627776) :
    Calls Try.prog 70 #[v] w (RetSl w ps) := by
  obtain ⟨AA, cap, rfl, z1, z2⟩ := k1.fl
  unfold maxLen at z2
  have HS := St.start w
  go_enter Try.func70, Try.ntmps70
  go_wp2_with (first
        | ((with_reducible (show wpList _ _ _ (Oper.mk (some 7) (Op.makeSlice _ _ _) _ _ _ _ :: _) _ _)); refine wpList_makeF_st (y0 := (⟨#[]⟩ : ByteArray)) (o := ⟨some 7, .makeSlice _ _ _, _, _, _, _⟩) rfl _ _ _ rfl _ Try.underlying25 in_string (n := ps.length) rfl rfl rfl rfx nil_ok (by omega) mxl HS ?_; clear HS; intro w7 b7 hb7 HS)
        | ((with_reducible (show wpList _ _ _ (Oper.mk (some 19) (Op.load _ _) _ _ _ _ :: _) _ _)); refine wpList_loadHF (o := ⟨some 19, .load _ _, _, _, _, _⟩) rfl _ _ rfl rfl HS (fun _ hs => k1.ex hs.ex) HK.out 1 0 (by first | rfl | (simp; done) | omega) rfl (by decide) sc_string flt ?_)
        | ((with_reducible (show wpList _ _ _ (Oper.mk none (Op.store _ (.tmp 20) _) _ _ _ _ :: _) _ _)); refine wpList_storeE_st (o := ⟨none, .store _ (.tmp 20) _, _, _, _, _⟩) rfl _ _ _ rfl rfl (v := .string _) rfl HS tk sz_string 1 0 rfl (by first | rfl | (simp; done) | omega) hfl vcs rfx rfx HKF.out (el := x) HOK.out rfx (by simp) ?_ rfl; clear HS; intro w5_7 hz5_7 HS))
  rw [← fillL_zero ps ⟨#[]⟩] at HS
  go_loopw [4] (fun i wr => ∃ k : Nat, k ≤ ps.length ∧ i = .int .i64 k ∧ St w wr [ownA (fillL ps ⟨#[]⟩ k) [.slice (some ⟨b7, 0, none⟩) ps.length ps.length]]) (fun i _ => ps.length - (intOf i).toNat)
  case atStart => exact ⟨0, Nat.zero_le _, rfl, HS⟩
  case round =>
    clear HS
    obtain ⟨k, hkl, rfl, HS⟩ := hrel
    by_cases hlt : k < ps.length
    case pos =>
      obtain ⟨b, off, rfl⟩ := k1.flA (by omega)
      have hfl : k < (fillL ps (⟨#[]⟩ : ByteArray) k).length := by rw [fillL_length _ _ hkl]; exact hlt
      have HST := hid (fillL_set ps (⟨#[]⟩ : ByteArray) hlt)
      have HKF := hid (fillL_get ps (⟨#[]⟩ : ByteArray) hlt)
      have HOK : Hid (Flat.ok ps[k]) := hid (k1.sizes _ (List.getElem_mem hlt))
      have HK := hid (List.getElem?_eq_getElem hlt)
      generalize ps[k] = x at *
      go_wp2_with (first
            | ((with_reducible (show wpList _ _ _ (Oper.mk (some 7) (Op.makeSlice _ _ _) _ _ _ _ :: _) _ _)); refine wpList_makeF_st (y0 := (⟨#[]⟩ : ByteArray)) (o := ⟨some 7, .makeSlice _ _ _, _, _, _, _⟩) rfl _ _ _ rfl _ Try.underlying25 in_string (n := ps.length) rfl rfl rfl rfx nil_ok (by omega) mxl HS ?_; clear HS; intro w7 b7 hb7 HS)
            | ((with_reducible (show wpList _ _ _ (Oper.mk (some 19) (Op.load _ _) _ _ _ _ :: _) _ _)); refine wpList_loadHF (o := ⟨some 19, .load _ _, _, _, _, _⟩) rfl _ _ rfl rfl HS (fun _ hs => k1.ex hs.ex) HK.out 1 0 (by first | rfl | (simp; done) | omega) rfl (by decide) sc_string flt ?_)
            | ((with_reducible (show wpList _ _ _ (Oper.mk none (Op.store _ (.tmp 20) _) _ _ _ _ :: _) _ _)); refine wpList_storeE_st (o := ⟨none, .store _ (.tmp 20) _, _, _, _, _⟩) rfl _ _ _ rfl rfl (v := .string _) rfl HS tk sz_string 1 0 rfl (by first | rfl | (simp; done) | omega) hfl vcs rfx rfx HKF.out (el := x) HOK.out rfx (by simp) ?_ rfl; clear HS; intro w5_7 hz5_7 HS))
      rw [HST.out] at HS
      go_roundw
      case rel => exact ⟨k + 1, hlt, by go_num, HS⟩
      case measure => simp [intOf]; omega
    case neg =>
      obtain rfl : k = ps.length := by omega
      rw [fillL_all] at HS
      go_wp2_with (first
            | ((with_reducible (show wpList _ _ _ (Oper.mk (some 7) (Op.makeSlice _ _ _) _ _ _ _ :: _) _ _)); refine wpList_makeF_st (y0 := (⟨#[]⟩ : ByteArray)) (o := ⟨some 7, .makeSlice _ _ _, _, _, _, _⟩) rfl _ _ _ rfl _ Try.underlying25 in_string (n := ps.length) rfl rfl rfl rfx nil_ok (by omega) mxl HS ?_; clear HS; intro w7 b7 hb7 HS)
            | ((with_reducible (show wpList _ _ _ (Oper.mk (some 19) (Op.load _ _) _ _ _ _ :: _) _ _)); refine wpList_loadHF (o := ⟨some 19, .load _ _, _, _, _, _⟩) rfl _ _ rfl rfl HS (fun _ hs => k1.ex hs.ex) HK.out 1 0 (by first | rfl | (simp; done) | omega) rfl (by decide) sc_string flt ?_)
            | ((with_reducible (show wpList _ _ _ (Oper.mk none (Op.store _ (.tmp 20) _) _ _ _ _ :: _) _ _)); refine wpList_storeE_st (o := ⟨none, .store _ (.tmp 20) _, _, _, _, _⟩) rfl _ _ _ rfl rfl (v := .string _) rfl HS tk sz_string 1 0 rfl (by first | rfl | (simp; done) | omega) hfl vcs rfx rfx HKF.out (el := x) HOK.out rfx (by simp) ?_ rfl; clear HS; intro w5_7 hz5_7 HS))
      go_ret
      exact HS.ret tk

set_option maxRecDepth 100000 in
set_option maxHeartbeats 4000000 in
theorem toMemory_any (v : Value) (ps : Pg) (w : World) (k1 : Holds w ps [v]) (hl : ps.length ≤ 1099511627776) :
    Calls Try.prog 20 #[.agg #[v]] w (RetMem w ps) := by
  obtain ⟨AA, cap, rfl, z1, z2⟩ := k1.fl
  unfold maxLen at z2
  have HS := St.start w
  go_enter Try.func20, Try.ntmps20
  go_wp2_with (first
        | (go_at_call 70; (with_reducible refine (toStringS_any _ ps _ (k1.ex HS.ex) hl).mono ?_); rintro e w' ⟨a1, c1, rfl, ho, hx⟩; replace HS := HS.own ho hx; clear ho hx)
        | ((with_reducible (show wpList _ _ _ (Oper.mk (some 1) (Op.box _ _) _ _ _ _ :: _) _ _)); refine wpList_box_st (o := ⟨some 1, .box _ _, _, _, _, _⟩) rfl _ _ rfl (v := .agg (List.toArray _)) rfl HS ?_; clear HS; intro w1 b1 hb1 HS; simp only [Value.cells] at HS)
        | ((with_reducible (show wpList _ _ _ (Oper.mk (some 1) (Op.box _ _) _ _ _ _ :: _) _ _)); refine wpList_box_st (o := ⟨some 1, .box _ _, _, _, _, _⟩) rfl _ _ rfl (v := .agg _) rfl HS ?_; clear HS; intro w1 b1 hb1 HS; simp only [Value.cells] at HS)
        | ((with_reducible (show wpList _ _ _ (Oper.mk (some 2) (Op.alloc _) _ _ _ _ :: _) _ _)); refine wpList_alloc_st (o := ⟨some 2, .alloc _, _, _, _, _⟩) rfl _ rfl zc_impl_Memory HS ?_; clear HS; intro w2 b2 hb2 HS)
        | ((with_reducible (show wpList _ _ _ (Oper.mk (some 3) (Op.alloc _) _ _ _ _ :: _) _ _)); refine wpList_alloc_st (o := ⟨some 3, .alloc _, _, _, _, _⟩) rfl _ rfl zc_impl_Memory HS ?_; clear HS; intro w3 b3 hb3 HS)
        | ((with_reducible (show wpList _ _ _ (Oper.mk (some 5) (Op.load _ _) _ _ _ _ :: _) _ _)); refine wpList_loadS_st (o := ⟨some 5, .load _ _, _, _, _, _⟩) rfl _ _ rfl rfl HS tk sc_Sstring rfx ?_)
        | ((with_reducible (show wpList _ _ _ (Oper.mk none (Op.store _ (.tmp 7) _) _ _ _ _ :: _) _ _)); refine wpList_store_st (o := ⟨none, .store _ (.tmp 7) _, _, _, _, _⟩) rfl _ _ _ rfl rfl (v := .slice _ _ _) rfl HS tk sz_Sstring vcs rfx rfx (by simp) ?_ rfl; clear HS; intro w2_4 hz2_4 HS; simp only [nicL, Value.cells, List.append_nil] at HS)
        | ((with_reducible (show wpList _ _ _ (Oper.mk (some 8) (Op.load _ _) _ _ _ _ :: _) _ _)); refine wpList_loadA_st (o := ⟨some 8, .load _ _, _, _, _, _⟩) rfl _ _ rfl rfl HS tk ag_impl_Memory lit rfl ?_)
        | ((with_reducible (show wpList _ _ _ (Oper.mk none (Op.store _ (.tmp 2) _) _ _ _ _ :: _) _ _)); refine wpList_store_st (o := ⟨none, .store _ (.tmp 2) _, _, _, _, _⟩) rfl _ _ _ rfl rfl (v := .agg (List.toArray _)) rfl HS tk sz_impl_Memory vcs rfx rfx (by simp) ?_ rfl; clear HS; intro w3_1 hz3_1 HS; simp only [nicL, Value.cells, List.append_nil] at HS)
        | ((with_reducible (show wpList _ _ _ (Oper.mk none (Op.store _ (.tmp 2) _) _ _ _ _ :: _) _ _)); refine wpList_store_st (o := ⟨none, .store _ (.tmp 2) _, _, _, _, _⟩) rfl _ _ _ rfl rfl (v := .agg _) rfl HS tk sz_impl_Memory vcs rfx rfx (by simp) ?_ rfl; clear HS; intro w3_1 hz3_1 HS; simp only [nicL, Value.cells, List.append_nil] at HS))
  refine bodyPost_retc rfx rfx HS tk ag_impl_Memory rfx rfx ?_
  exact retMem HS tk

set_option maxRecDepth 100000 in
set_option maxHeartbeats 4000000 in
theorem szStringS_le (v : Value) (ps : Pg) (l : Int) (w : World) (k1 : Holds w ps [v]) (hl : l ≤ 1048576) (hs : ((ps.length + totS ps : Nat) : Int) ≤ l) :
    Calls Try.prog 64 #[v, .int .i64 l] w fun e w' => e = .returned (.int .i64 (l - ((ps.length + totS ps : Nat) : Int))) ∧ Ex w w' := by
  obtain ⟨AA, cap, rfl, z1, z2⟩ := k1.fl
  unfold maxLen at z2
  have HS := St.start w
  go_enter Try.func64, Try.ntmps64
  go_wp2_with (first
        | ((with_reducible (show wpList _ _ _ (Oper.mk (some 22) (Op.load _ _) _ _ _ _ :: _) _ _)); refine wpList_loadHF (o := ⟨some 22, .load _ _, _, _, _, _⟩) rfl _ _ rfl rfl HS (fun _ hs => k1.ex hs.ex) HK.out 1 0 (by first | rfl | (simp; done) | omega) rfl (by decide) sc_string flt ?_))
  go_loopw [1, 5] (fun lv i wr => ∃ k : Nat, k ≤ ps.length ∧ lv = .int .i64 (l - ((ps.length + totS (ps.take k) : Nat) : Int)) ∧ i = .int .i64 k ∧ St w wr []) (fun _ i _ => ps.length - (intOf i).toNat)
  case atStart => exact ⟨0, Nat.zero_le _, by simp [totS], rfl, (HS.arr (by repeat (first | exact Arr.nil | (with_reducible exact take_all _) | (refine Arr.cons tk ?_) | (refine arr_skip ?_))))⟩
  case round =>
    clear HS
    obtain ⟨k, hkl, rfl, rfl, HS⟩ := hrel
    by_cases hlt : k < ps.length
    case pos =>
      obtain ⟨b, off, rfl⟩ := k1.flA (by omega)
      have ht := totS_take ps k hlt
      have ht2 := totS_take_le ps (k + 1)
      have hxm := k1.sizes _ (List.getElem_mem hlt)
      unfold maxLen at hxm
      have HK := hid (List.getElem?_eq_getElem hlt)
      generalize ps[k] = x at *
      rw [ht] at ht2
      have HT := hid ht
      generalize totS (ps.take k) = T at *
      generalize totS ps = TT at *
      clear ht
      go_wp2_with (first
            | ((with_reducible (show wpList _ _ _ (Oper.mk (some 22) (Op.load _ _) _ _ _ _ :: _) _ _)); refine wpList_loadHF (o := ⟨some 22, .load _ _, _, _, _, _⟩) rfl _ _ rfl rfl HS (fun _ hs => k1.ex hs.ex) HK.out 1 0 (by first | rfl | (simp; done) | omega) rfl (by decide) sc_string flt ?_))
      go_roundw
      case rel => exact ⟨k + 1, hlt, by rw [HT.out]; congr 1; omega, by go_num, (HS.arr (by repeat (first | exact Arr.nil | (with_reducible exact take_all _) | (refine Arr.cons tk ?_) | (refine arr_skip ?_))))⟩
      case measure => simp [intOf]; omega
    case neg =>
      obtain rfl : k = ps.length := by omega
      rw [totS_all] at *
      go_wp2_with (first
            | ((with_reducible (show wpList _ _ _ (Oper.mk (some 22) (Op.load _ _) _ _ _ _ :: _) _ _)); refine wpList_loadHF (o := ⟨some 22, .load _ _, _, _, _, _⟩) rfl _ _ rfl rfl HS (fun _ hs => k1.ex hs.ex) HK.out 1 0 (by first | rfl | (simp; done) | omega) rfl (by decide) sc_string flt ?_))
      go_ret
      exact ⟨rfl, HS.ex⟩

set_option maxRecDepth 100000 in
set_option maxHeartbeats 4000000 in
theorem szStringS_gt (v : Value) (ps : Pg) (l : Int) (w : World) (k1 : Holds w ps [v]) (hl : l ≤ 1048576) (h0 : 0 ≤ l) (hs : l < ((ps.length + totS ps : Nat) : Int)) :
    Calls Try.prog 64 #[v, .int .i64 l] w fun e w' => e = .returned (.int .i64 (-1)) ∧ Ex w w' := by
  obtain ⟨AA, cap, rfl, z1, z2⟩ := k1.fl
  unfold maxLen at z2
  by_cases hfirst : l < ps.length
  case pos =>
    have HS := St.start w
    go_enter Try.func64, Try.ntmps64
    go_wp2_with (first
          | ((with_reducible (show wpList _ _ _ (Oper.mk (some 22) (Op.load _ _) _ _ _ _ :: _) _ _)); refine wpList_loadHF (o := ⟨some 22, .load _ _, _, _, _, _⟩) rfl _ _ rfl rfl HS (fun _ hs => k1.ex hs.ex) HK.out 1 0 (by first | rfl | (simp; done) | omega) rfl (by decide) sc_string flt ?_))
    go_ret
    exact ⟨rfl, HS.ex⟩
  case neg =>
  have HS := St.start w
  go_enter Try.func64, Try.ntmps64
  go_wp2_with (first
        | ((with_reducible (show wpList _ _ _ (Oper.mk (some 22) (Op.load _ _) _ _ _ _ :: _) _ _)); refine wpList_loadHF (o := ⟨some 22, .load _ _, _, _, _, _⟩) rfl _ _ rfl rfl HS (fun _ hs => k1.ex hs.ex) HK.out 1 0 (by first | rfl | (simp; done) | omega) rfl (by decide) sc_string flt ?_))
  go_loopw [1, 5] (fun lv i wr => ∃ k : Nat, k ≤ ps.length ∧ ((ps.length + totS (ps.take k) : Nat) : Int) ≤ l ∧ lv = .int .i64 (l - ((ps.length + totS (ps.take k) : Nat) : Int)) ∧ i = .int .i64 k ∧ St w wr []) (fun _ i _ => ps.length - (intOf i).toNat)
  case atStart => exact ⟨0, Nat.zero_le _, by simp [totS]; omega, by simp [totS], rfl, (HS.arr (by repeat (first | exact Arr.nil | (with_reducible exact take_all _) | (refine Arr.cons tk ?_) | (refine arr_skip ?_))))⟩
  case round =>
    clear HS
    obtain ⟨k, hkl, hle, rfl, rfl, HS⟩ := hrel
    by_cases hlt : k < ps.length
    case pos =>
      obtain ⟨b, off, rfl⟩ := k1.flA (by omega)
      have ht := totS_take ps k hlt
      have ht2 := totS_take_le ps (k + 1)
      have hxm := k1.sizes _ (List.getElem_mem hlt)
      unfold maxLen at hxm
      have HK := hid (List.getElem?_eq_getElem hlt)
      generalize ps[k] = x at *
      rw [ht] at ht2
      have HT := hid ht
      generalize totS (ps.take k) = T at *
      generalize totS ps = TT at *
      clear ht
      by_cases hov : l < ((ps.length + (T + x.size) : Nat) : Int)
      case pos =>
        go_wp2_with (first
              | ((with_reducible (show wpList _ _ _ (Oper.mk (some 22) (Op.load _ _) _ _ _ _ :: _) _ _)); refine wpList_loadHF (o := ⟨some 22, .load _ _, _, _, _, _⟩) rfl _ _ rfl rfl HS (fun _ hs => k1.ex hs.ex) HK.out 1 0 (by first | rfl | (simp; done) | omega) rfl (by decide) sc_string flt ?_))
        go_ret
        exact ⟨rfl, HS.ex⟩
      case neg =>
        go_wp2_with (first
              | ((with_reducible (show wpList _ _ _ (Oper.mk (some 22) (Op.load _ _) _ _ _ _ :: _) _ _)); refine wpList_loadHF (o := ⟨some 22, .load _ _, _, _, _, _⟩) rfl _ _ rfl rfl HS (fun _ hs => k1.ex hs.ex) HK.out 1 0 (by first | rfl | (simp; done) | omega) rfl (by decide) sc_string flt ?_))
        go_roundw
        case rel => exact ⟨k + 1, hlt, by rw [HT.out]; omega, by rw [HT.out]; congr 1; omega, by go_num, (HS.arr (by repeat (first | exact Arr.nil | (with_reducible exact take_all _) | (refine Arr.cons tk ?_) | (refine arr_skip ?_))))⟩
        case measure => simp [intOf]; omega
    case neg =>
      obtain rfl : k = ps.length := by omega
      rw [totS_all] at hle; omega

set_option maxRecDepth 100000 in
set_option maxHeartbeats 4000000 in
theorem szMemory_le (v : Value) (ps : Pg) (l : Int) (w : World) (k1 : Holds w ps [v]) (hl : l ≤ 1048576) (hs : ((ps.length + totS ps : Nat) : Int) ≤ l) :
    Calls Try.prog 17 #[.agg #[v], .int .i64 l] w fun e w' => e = .returned (.int .i64 (l - ((ps.length + totS ps : Nat) : Int))) ∧ Ex w w' := by
  obtain ⟨AA, cap, rfl, z1, z2⟩ := k1.fl
  unfold maxLen at z2
  have HS := St.start w
  go_enter Try.func17, Try.ntmps17
  go_wp2_with (first
        | (go_at_call 64; (with_reducible refine (szStringS_le _ ps l _ (k1.ex HS.ex) hl hs).mono ?_); rintro e w' ⟨rfl, hx⟩; replace HS := HS.grow hx; clear hx)
        | ((with_reducible (show wpList _ _ _ (Oper.mk (some 2) (Op.box _ _) _ _ _ _ :: _) _ _)); refine wpList_box_st (o := ⟨some 2, .box _ _, _, _, _, _⟩) rfl _ _ rfl (v := .agg (List.toArray _)) rfl HS ?_; clear HS; intro w2 b2 hb2 HS; simp only [Value.cells] at HS)
        | ((with_reducible (show wpList _ _ _ (Oper.mk (some 2) (Op.box _ _) _ _ _ _ :: _) _ _)); refine wpList_box_st (o := ⟨some 2, .box _ _, _, _, _, _⟩) rfl _ _ rfl (v := .agg _) rfl HS ?_; clear HS; intro w2 b2 hb2 HS; simp only [Value.cells] at HS)
        | ((with_reducible (show wpList _ _ _ (Oper.mk (some 6) (Op.load _ _) _ _ _ _ :: _) _ _)); refine wpList_loadS_st (o := ⟨some 6, .load _ _, _, _, _, _⟩) rfl _ _ rfl rfl HS tk sc_Sstring rfx ?_))
  go_ret
  exact ⟨rfl, HS.ex⟩

set_option maxRecDepth 100000 in
set_option maxHeartbeats 4000000 in
theorem szMemory_gt (v : Value) (ps : Pg) (l : Int) (w : World) (k1 : Holds w ps [v]) (hl : l ≤ 1048576) (h0 : 0 ≤ l) (hs : l < ((ps.length + totS ps : Nat) : Int)) :
    Calls Try.prog 17 #[.agg #[v], .int .i64 l] w fun e w' => e = .returned (.int .i64 (-1)) ∧ Ex w w' := by
  obtain ⟨AA, cap, rfl, z1, z2⟩ := k1.fl
  unfold maxLen at z2
  have HS := St.start w
  go_enter Try.func17, Try.ntmps17
  go_wp2_with (first
        | (go_at_call 64; (with_reducible refine (szStringS_gt _ ps l _ (k1.ex HS.ex) hl h0 hs).mono ?_); rintro e w' ⟨rfl, hx⟩; replace HS := HS.grow hx; clear hx)
        | ((with_reducible (show wpList _ _ _ (Oper.mk (some 2) (Op.box _ _) _ _ _ _ :: _) _ _)); refine wpList_box_st (o := ⟨some 2, .box _ _, _, _, _, _⟩) rfl _ _ rfl (v := .agg (List.toArray _)) rfl HS ?_; clear HS; intro w2 b2 hb2 HS; simp only [Value.cells] at HS)
        | ((with_reducible (show wpList _ _ _ (Oper.mk (some 2) (Op.box _ _) _ _ _ _ :: _) _ _)); refine wpList_box_st (o := ⟨some 2, .box _ _, _, _, _, _⟩) rfl _ _ rfl (v := .agg _) rfl HS ?_; clear HS; intro w2 b2 hb2 HS; simp only [Value.cells] at HS)
        | ((with_reducible (show wpList _ _ _ (Oper.mk (some 6) (Op.load _ _) _ _ _ _ :: _) _ _)); refine wpList_loadS_st (o := ⟨some 6, .load _ _, _, _, _, _⟩) rfl _ _ rfl rfl HS tk sc_Sstring rfx ?_))
  go_ret
  exact ⟨rfl, HS.ex⟩

set_option maxRecDepth 100000 in
set_option maxHeartbeats 4000000 in
theorem eqStringS_same (v1 v2 : Value) (ps : Pg) (w : World) (k1 : Holds w ps [v1]) (k2 : Holds w ps [v2]) :
    Calls Try.prog 72 #[v1, v2] w fun e w' => e = .returned (.bool true) ∧ Ex w w' := by
  obtain ⟨AA, cap, rfl, z1, z2⟩ := k1.fl
  unfold maxLen at z2
  obtain ⟨BB, cap2, rfl, y1, y2⟩ := k2.fl
  unfold maxLen at y2
  have HS := St.start w
  go_enter Try.func72, Try.ntmps72
  go_wp2
  go_loopw [5] (fun i wr => ∃ k : Nat, k ≤ ps.length ∧ i = .int .i64 k ∧ St w wr []) (fun i _ => ps.length - (intOf i).toNat)
  case atStart => exact ⟨0, Nat.zero_le _, rfl, (HS.arr (by repeat (first | exact Arr.nil | (with_reducible exact take_all _) | (refine Arr.cons tk ?_) | (refine arr_skip ?_))))⟩
  case round =>
    clear HS
    obtain ⟨k, hkl, rfl, HS⟩ := hrel
    by_cases hlt : k < ps.length
    case pos =>
      obtain ⟨b, off, rfl⟩ := k1.flA (by omega)
      obtain ⟨b', off', rfl⟩ := k2.flA (by omega)
      have HK := hid (List.getElem?_eq_getElem hlt)
      generalize ps[k] = x at *
      go_wp2
      refine wp_region_plan_st HS (.early 0 (.early 1 (.early 2 (.early 3 (.early 4 (.forced 5 1 (.forced 6 1 (.forced 7 1 (.forced 8 2 .done))))))))) (by kernel_rfl) (by as_aux_lemma => kernel_rfl) ?_
      intro hne
      replace HS := HS.drew
      try go_simp
      repeat' (first
        | (with_reducible refine wpPlan_forced ?_)
        | ((with_reducible (first | (show wpPlan _ _ _ _ (.early 0 _) _ _) | (show wpPlan _ _ _ _ (.early 1 _) _ _) | (show wpPlan _ _ _ _ (.early 2 _) _ _) | (show wpPlan _ _ _ _ (.early 4 _) _ _))); (first | (refine wpPlan_skipE rfl rfl ?_; (try go_simp)) | (refine wpPlan_early rfl rfl ?_; intro K hK; (first | go_big_quiet_op); (first | go_big_quiet_on | (refine ⟨_, fun _ => rfl, ?_⟩; go_big_quiet_on)))))
        | ((with_reducible ((show wpPlan _ _ _ _ (.early 3 _) _ _))); (first | (refine wpPlan_skipE rfl rfl ?_; (try go_simp)) | (refine wpPlan_early rfl rfl ?_; intro K hK; (first | ((refine quiet_loadHF  _ _ rfl rfl (fun _ hs => k1.ex hs.ex) HK.out 1 0 (by first | rfl | (simp; done) | omega) rfl (by decide) sc_string flt ?_); (try go_simp)) | go_big_quiet_op); (first | go_big_quiet_on | (refine ⟨_, fun _ => rfl, ?_⟩; go_big_quiet_on)))))
        | ((with_reducible (first | (show wpOne _ _ _ _ 5 1 _ _ _) | (show wpOne _ _ _ _ 6 1 _ _ _))); (first | (refine wpOne_skip rfl rfl ?_; (try go_simp)) | (refine wpOne_1 rfl rfl ?_; intro K hK; go_simp; refine hK _ _ ?_ ?_; (focus (exact stw HS)); clear hK K)))
        | ((with_reducible ((show wpOne _ _ _ _ 7 1 _ _ _))); (first | (refine wpOne_skip rfl rfl ?_; (try go_simp)) | (refine wpOne_1 rfl rfl ?_; intro K hK; (first | (refine wp_loadHF  _ _ rfl rfl HS (fun _ hs => k2.ex hs.ex) HK.out 1 0 (by first | rfl | (simp; done) | omega) rfl (by decide) sc_string flt ?_)); (try go_simp); refine hK _ _ ?_ ?_; (focus (exact stw HS)); clear hK K)))
        | ((with_reducible ((show wpOne _ _ _ _ 8 2 _ _ _))); (first | (refine wpOne_skip rfl rfl ?_; (try go_simp)) | (refine wpOne_2 rfl rfl ?_; intro K hK; go_simp; refine hK _ _ ?_; clear hK K)))
        | (with_reducible refine wpPlan_done ?_))
      go_wp2
      go_roundw
      case rel => exact ⟨k + 1, hlt, by go_num, (HS.arr (by repeat (first | exact Arr.nil | (with_reducible exact take_all _) | (refine Arr.cons tk ?_) | (refine arr_skip ?_))))⟩
      case measure => simp [intOf]; omega
    case neg =>
      obtain rfl : k = ps.length := by omega
      go_wp2
      go_ret
      exact ⟨rfl, HS.ex⟩

set_option maxRecDepth 100000 in
set_option maxHeartbeats 4000000 in
theorem eqMemory_same (v1 v2 : Value) (ps : Pg) (w : World) (k1 : Holds w ps [v1]) (k2 : Holds w ps [v2]) :
    Calls Try.prog 25 #[.agg #[v1], .agg #[v2]] w fun e w' => e = .returned (.bool true) ∧ Ex w w' := by
  have HS := St.start w
  go_enter Try.func25, Try.ntmps25
  go_wp2_with (first
        | (go_at_call 72; (with_reducible refine (eqStringS_same _ _ ps _ (k1.ex HS.ex) (k2.ex HS.ex)).mono ?_); rintro e w' ⟨rfl, hx⟩; replace HS := HS.grow hx; clear hx)
        | ((with_reducible (show wpList _ _ _ (Oper.mk (some 2) (Op.box _ _) _ _ _ _ :: _) _ _)); refine wpList_box_st (o := ⟨some 2, .box _ _, _, _, _, _⟩) rfl _ _ rfl (v := .agg (List.toArray _)) rfl HS ?_; clear HS; intro w2 b2 hb2 HS; simp only [Value.cells] at HS)
        | ((with_reducible (show wpList _ _ _ (Oper.mk (some 2) (Op.box _ _) _ _ _ _ :: _) _ _)); refine wpList_box_st (o := ⟨some 2, .box _ _, _, _, _, _⟩) rfl _ _ rfl (v := .agg _) rfl HS ?_; clear HS; intro w2 b2 hb2 HS; simp only [Value.cells] at HS)
        | ((with_reducible (show wpList _ _ _ (Oper.mk (some 3) (Op.box _ _) _ _ _ _ :: _) _ _)); refine wpList_box_st (o := ⟨some 3, .box _ _, _, _, _, _⟩) rfl _ _ rfl (v := .agg (List.toArray _)) rfl HS ?_; clear HS; intro w3 b3 hb3 HS; simp only [Value.cells] at HS)
        | ((with_reducible (show wpList _ _ _ (Oper.mk (some 3) (Op.box _ _) _ _ _ _ :: _) _ _)); refine wpList_box_st (o := ⟨some 3, .box _ _, _, _, _, _⟩) rfl _ _ rfl (v := .agg _) rfl HS ?_; clear HS; intro w3 b3 hb3 HS; simp only [Value.cells] at HS)
        | ((with_reducible (show wpList _ _ _ (Oper.mk (some 6) (Op.load _ _) _ _ _ _ :: _) _ _)); refine wpList_loadS_st (o := ⟨some 6, .load _ _, _, _, _, _⟩) rfl _ _ rfl rfl HS tk sc_Sstring rfx ?_)
        | ((with_reducible (show wpList _ _ _ (Oper.mk (some 8) (Op.load _ _) _ _ _ _ :: _) _ _)); refine wpList_loadS_st (o := ⟨some 8, .load _ _, _, _, _, _⟩) rfl _ _ rfl rfl HS tk sc_Sstring rfx ?_))
  go_ret
  exact ⟨rfl, HS.ex⟩

set_option maxRecDepth 100000 in
set_option maxHeartbeats 4000000 in
theorem markStringS_st {w0 : World} {Js : List Asn} (v : Value) (ps : Pg) (q0 : Nat) (w : World) (HS : St w0 w (ownA ps [v] :: Js)) (h0 : 0 < q0) (h1 : q0 + ps.length ≤ 4611686018427387903) :
    Calls Try.prog 77 #[v, .int .i64 q0] w (fun e w' => e = .returned (.int .i64 ((q0 + ps.length : Nat) : Int)) ∧ St w0 w' (ownA (mtexts ps.length q0) [v] :: Js)) := by
  obtain ⟨A1, c1, rfl⟩ := ownA.form HS .head
  go_enter Try.func77, Try.ntmps77
  go_wp2_with (first
        | ((with_reducible (show wpList _ _ _ (Oper.mk none (Op.store _ (.tmp 16) _) _ _ _ _ :: _) _ _)); refine wpList_storeF_st (o := ⟨none, .store _ (.tmp 16) _, _, _, _, _⟩) rfl _ _ _ rfl rfl rfl HS tk sz_string rfl hfl (v := mtext q) HOK.out rfl rfl ?_ rfl; clear HS; intro w4_5 hz4_5 HS))
  go_loopw [1, 5] (fun kv i wr => ∃ k q : Nat, k ≤ ps.length ∧ q = q0 + k ∧ kv = .int .i64 (q : Int) ∧ i = .int .i64 k ∧ St w0 wr (ownA (mtexts k q0 ++ ps.drop k) [.slice A1 ps.length c1] :: Js)) (fun _ i _ => ps.length - (intOf i).toNat)
  case atStart => exact ⟨0, q0, Nat.zero_le _, rfl, rfl, rfl, by simpa [mtexts] using HS⟩
  case round =>
    clear HS
    obtain ⟨k, q, hkl, hq, rfl, rfl, HS⟩ := hrel
    have HQ := hid hq
    by_cases hlt : k < ps.length
    case pos =>
      have hfl : k < (mtexts k q0 ++ ps.drop k).length := by rw [List.length_append, mtexts_length, List.length_drop]; omega
      have HST := mtexts_step (ps := ps) (K := q0) hlt
      rw [← hq] at HST
      replace HST := hid HST
      have HOK : Hid (Flat.ok (mtext q)) := hid (by have := mtext_size q; show (mtext q).size ≤ maxLen; unfold maxLen; omega)
      have hqb : q ≤ 4611686018427387903 := by omega
      have hq1 : 0 < q := by omega
      clear hq
      obtain ⟨b, off, cc, hv, -, -⟩ := ownA.addr HS (show Take _ (ownA (mtexts k q0 ++ ps.drop k) [.slice A1 _ _]) _ from tk) (by omega)
      simp only [Value.slice.injEq] at hv
      obtain ⟨rfl, -, rfl⟩ := hv
      go_wp2_with (first
            | (go_at_call 131; (with_reducible refine (markText_any q _ (by omega) (by omega)).mono ?_); rintro e w' ⟨rfl, hx⟩; replace HS := HS.grow hx; clear hx)
            | ((with_reducible (show wpList _ _ _ (Oper.mk none (Op.store _ (.tmp 16) _) _ _ _ _ :: _) _ _)); refine wpList_storeF_st (o := ⟨none, .store _ (.tmp 16) _, _, _, _, _⟩) rfl _ _ _ rfl rfl rfl HS tk sz_string rfl hfl (v := mtext q) HOK.out rfl rfl ?_ rfl; clear HS; intro w4_5 hz4_5 HS))
      rw [HST.out] at HS
      go_roundw
      case rel => exact ⟨k + 1, q + 1, hlt, by rw [HQ.out]; rfl, rfl, by go_num, HS⟩
      case measure => simp [intOf]; omega
    case neg =>
      obtain rfl : k = ps.length := by omega
      subst hq
      rw [List.drop_length, List.append_nil] at HS
      go_wp2_with (first
            | ((with_reducible (show wpList _ _ _ (Oper.mk none (Op.store _ (.tmp 16) _) _ _ _ _ :: _) _ _)); refine wpList_storeF_st (o := ⟨none, .store _ (.tmp 16) _, _, _, _, _⟩) rfl _ _ _ rfl rfl rfl HS tk sz_string rfl hfl (v := mtext q) HOK.out rfl rfl ?_ rfl; clear HS; intro w4_5 hz4_5 HS))
      go_ret
      exact ⟨rfl, HS⟩

set_option maxRecDepth 100000 in
set_option maxHeartbeats 4000000 in
theorem markMemory_st {w0 : World} {Js : List Asn} (v : Value) (ps : Pg) (q0 : Nat) (w : World) (HS : St w0 w (ownA ps [v] :: Js)) (h0 : 0 < q0) (h1 : q0 + ps.length ≤ 4611686018427387903) :
    Calls Try.prog 29 #[.agg #[v], .int .i64 q0] w (fun e w' => e = .returned (.int .i64 ((q0 + ps.length : Nat) : Int)) ∧ St w0 w' (ownA (mtexts ps.length q0) [v] :: Js)) := by
  go_enter Try.func29, Try.ntmps29
  go_wp2_with (first
        | (go_at_call 77; (with_reducible refine (markStringS_st _ ps q0 _ (HS.take tk) h0 h1).mono ?_); rintro e w' ⟨rfl, HS9⟩; clear HS; have HS := HS9; clear HS9)
        | ((with_reducible (show wpList _ _ _ (Oper.mk (some 2) (Op.box _ _) _ _ _ _ :: _) _ _)); refine wpList_box_st (o := ⟨some 2, .box _ _, _, _, _, _⟩) rfl _ _ rfl (v := .agg (List.toArray _)) rfl HS ?_; clear HS; intro w2 b2 hb2 HS; simp only [Value.cells] at HS)
        | ((with_reducible (show wpList _ _ _ (Oper.mk (some 2) (Op.box _ _) _ _ _ _ :: _) _ _)); refine wpList_box_st (o := ⟨some 2, .box _ _, _, _, _, _⟩) rfl _ _ rfl (v := .agg _) rfl HS ?_; clear HS; intro w2 b2 hb2 HS; simp only [Value.cells] at HS)
        | ((with_reducible (show wpList _ _ _ (Oper.mk (some 6) (Op.load _ _) _ _ _ _ :: _) _ _)); refine wpList_loadS_st (o := ⟨some 6, .load _ _, _, _, _, _⟩) rfl _ _ rfl rfl HS tk sc_Sstring rfx ?_))
  go_ret
  exact ⟨rfl, HS.arr (.cons .head (arr_drop _ _))⟩

set_option maxRecDepth 100000 in
set_option maxHeartbeats 4000000 in
theorem heldStringS_any (v : Value) (n q0 : Nat) (w : World) (k1 : Holds w (mtexts n q0) [v]) (h0 : 0 < q0) (h1 : q0 + n ≤ 4611686018427387903) :
    Calls Try.prog 78 #[v, .int .i64 q0] w fun e w' => e = .returned (.int .i64 ((q0 + n : Nat) : Int)) ∧ Ex w w' := by
  obtain ⟨AA, cap, rfl, z1, z2⟩ := k1.fl
  unfold maxLen at z2
  rw [mtexts_length] at *
  have HS := St.start w
  go_enter Try.func78, Try.ntmps78
  go_wp2
  go_loopw [1, 5] (fun kv i wr => ∃ k q : Nat, k ≤ n ∧ q = q0 + k ∧ kv = .int .i64 (q : Int) ∧ i = .int .i64 k ∧ St w wr []) (fun _ i _ => n - (intOf i).toNat)
  case atStart => exact ⟨0, q0, Nat.zero_le _, rfl, rfl, rfl, (HS.arr (by repeat (first | exact Arr.nil | (with_reducible exact take_all _) | (refine Arr.cons tk ?_) | (refine arr_skip ?_))))⟩
  case round =>
    clear HS
    obtain ⟨k, q, hkl, hq, rfl, rfl, HS⟩ := hrel
    have HQ := hid hq
    by_cases hlt : k < n
    case pos =>
      obtain ⟨b, off, rfl⟩ := k1.flA (by rw [mtexts_length]; omega)
      have hk9 := mtexts_get (n := n) (k := q0) hlt
      rw [← hq] at hk9
      have HK := hid hk9
      clear hk9
      have hqb : q ≤ 4611686018427387903 := by omega
      have hq1 : 0 < q := by omega
      clear hq
      go_wp2
      refine wp_region_plan_st HS (.early 0 (.early 1 (.early 2 (.early 3 (.forced 4 1 (.forced 5 1 (.forced 6 2 .done))))))) (by kernel_rfl) (by as_aux_lemma => kernel_rfl) ?_
      intro hne
      replace HS := HS.drew
      try go_simp
      repeat' (first
        | (with_reducible refine wpPlan_forced ?_)
        | ((with_reducible (first | (show wpPlan _ _ _ _ (.early 0 _) _ _) | (show wpPlan _ _ _ _ (.early 1 _) _ _) | (show wpPlan _ _ _ _ (.early 2 _) _ _))); (first | (refine wpPlan_skipE rfl rfl ?_; (try go_simp)) | (refine wpPlan_early rfl rfl ?_; intro K hK; (first | go_big_quiet_op); (first | go_big_quiet_on | (refine ⟨_, fun _ => rfl, ?_⟩; go_big_quiet_on)))))
        | ((with_reducible ((show wpPlan _ _ _ _ (.early 3 _) _ _))); (first | (refine wpPlan_skipE rfl rfl ?_; (try go_simp)) | (refine wpPlan_early rfl rfl ?_; intro K hK; (first | ((refine quiet_loadHF  _ _ rfl rfl (fun _ hs => k1.ex hs.ex) HK.out 1 0 (by first | rfl | (simp; done) | omega) rfl (by decide) sc_string flt ?_); (try go_simp)) | go_big_quiet_op); (first | go_big_quiet_on | (refine ⟨_, fun _ => rfl, ?_⟩; go_big_quiet_on)))))
        | ((with_reducible ((show wpOne _ _ _ _ 4 1 _ _ _))); (first | (refine wpOne_skip rfl rfl ?_; (try go_simp)) | (refine wpOne_1 rfl rfl ?_; intro K hK; go_simp; refine hK _ _ ?_ ?_; (focus (exact stw HS)); clear hK K)))
        | ((with_reducible ((show wpOne _ _ _ _ 5 1 _ _ _))); (first | (refine wpOne_skip rfl rfl ?_; (try go_simp)) | (refine wpOne_1 rfl rfl ?_; intro K hK; go_simp; (first | (go_at_call 131; (with_reducible refine (markText_any q _ (by omega) (by omega)).mono ?_); rintro e w' ⟨rfl, hx⟩; replace HS := HS.grow hx; clear hx)); (try go_simp); refine hK _ _ ?_ ?_; (focus (exact stw HS)); clear hK K)))
        | ((with_reducible ((show wpOne _ _ _ _ 6 2 _ _ _))); (first | (refine wpOne_skip rfl rfl ?_; (try go_simp)) | (refine wpOne_2 rfl rfl ?_; intro K hK; go_simp; refine hK _ _ ?_; clear hK K)))
        | (with_reducible refine wpPlan_done ?_))
      go_wp2
      go_roundw
      case rel => exact ⟨k + 1, q + 1, hlt, by rw [HQ.out]; rfl, rfl, by go_num, (HS.arr (by repeat (first | exact Arr.nil | (with_reducible exact take_all _) | (refine Arr.cons tk ?_) | (refine arr_skip ?_))))⟩
      case measure => simp [intOf]; omega
    case neg =>
      obtain rfl : k = n := by omega
      subst hq
      go_wp2
      go_ret
      exact ⟨rfl, HS.ex⟩

set_option maxRecDepth 100000 in
set_option maxHeartbeats 4000000 in
theorem heldMemory_any (v : Value) (n q0 : Nat) (w : World) (k1 : Holds w (mtexts n q0) [v]) (h0 : 0 < q0) (h1 : q0 + n ≤ 4611686018427387903) :
    Calls Try.prog 30 #[.agg #[v], .int .i64 q0] w fun e w' => e = .returned (.int .i64 ((q0 + n : Nat) : Int)) ∧ Ex w w' := by
  have HS := St.start w
  go_enter Try.func30, Try.ntmps30
  go_wp2_with (first
        | (go_at_call 78; (with_reducible refine (heldStringS_any _ n q0 _ (k1.ex HS.ex) h0 h1).mono ?_); rintro e w' ⟨rfl, hx⟩; replace HS := HS.grow hx; clear hx)
        | ((with_reducible (show wpList _ _ _ (Oper.mk (some 2) (Op.box _ _) _ _ _ _ :: _) _ _)); refine wpList_box_st (o := ⟨some 2, .box _ _, _, _, _, _⟩) rfl _ _ rfl (v := .agg (List.toArray _)) rfl HS ?_; clear HS; intro w2 b2 hb2 HS; simp only [Value.cells] at HS)
        | ((with_reducible (show wpList _ _ _ (Oper.mk (some 2) (Op.box _ _) _ _ _ _ :: _) _ _)); refine wpList_box_st (o := ⟨some 2, .box _ _, _, _, _, _⟩) rfl _ _ rfl (v := .agg _) rfl HS ?_; clear HS; intro w2 b2 hb2 HS; simp only [Value.cells] at HS)
        | ((with_reducible (show wpList _ _ _ (Oper.mk (some 6) (Op.load _ _) _ _ _ _ :: _) _ _)); refine wpList_loadS_st (o := ⟨some 6, .load _ _, _, _, _, _⟩) rfl _ _ rfl rfl HS tk sc_Sstring rfx ?_))
  go_ret
  exact ⟨rfl, HS.ex⟩

end Go.Proofs.Ytelkplponnfkpaa
