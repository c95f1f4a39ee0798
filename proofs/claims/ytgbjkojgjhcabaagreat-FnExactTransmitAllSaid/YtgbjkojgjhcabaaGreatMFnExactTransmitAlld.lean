/- Part 4 of what the proof of FnExactTransmitAll rests on: an idealised machine, contracts of functions, and the walk of the law. No condition. -/
import Derived.Test.YtgbjkojgjhcabaaGreatMFnExactTransmitAllc
section
namespace Go.Proofs.YtgbjkojgjhcabaaGreat
open Go Go.RowKit
set_option linter.unusedVariables false
set_option linter.unusedSimpArgs false
set_option linter.unusedSectionVars false
theorem ret_str {a b : ByteArray} (h : a = b) : Ending.returned (.string a) = .returned (.string b) := by rw [h]
theorem sc_int : scalarT Tryz.prog 3 := ⟨_, Tryz.underlying3, rfl⟩
theorem sz_int : (Tryz.prog.info? 3).map (·.size) = some 1 := by kernel_rfl
theorem sc_bool : scalarT Tryz.prog 4 := ⟨_, Tryz.underlying4, rfl⟩
theorem sz_bool : (Tryz.prog.info? 4).map (·.size) = some 1 := by kernel_rfl
theorem sc_string : scalarT Tryz.prog 9 := ⟨_, Tryz.underlying9, rfl⟩
theorem sz_string : (Tryz.prog.info? 9).map (·.size) = some 1 := by kernel_rfl
theorem sc_Sstring : scalarT Tryz.prog 23 := ⟨_, Tryz.underlying23, rfl⟩
theorem sz_Sstring : (Tryz.prog.info? 23).map (·.size) = some 1 := by kernel_rfl
theorem ag_impl_Mapping : aggT Tryz.prog 101 4 := ⟨⟨_, Tryz.underlying101, rfl⟩, by kernel_rfl⟩
theorem zc_impl_Mapping : zeroCells' Tryz.prog 101 = some [.int .i64 0, .int .i64 0, .int .i64 0, .bool false] := by kernel_rfl
theorem sz_impl_Mapping : (Tryz.prog.info? 101).map (·.size) = some 4 := by kernel_rfl
theorem ag_impl_Memory : aggT Tryz.prog 35 1 := ⟨⟨_, Tryz.underlying35, rfl⟩, by kernel_rfl⟩
theorem zc_impl_Memory : zeroCells' Tryz.prog 35 = some [.slice none 0 0] := by kernel_rfl
theorem sz_impl_Memory : (Tryz.prog.info? 35).map (·.size) = some 1 := by kernel_rfl
theorem ag_laws_Mapping : aggT Tryz.prog 103 4 := ⟨⟨_, Tryz.underlying103, rfl⟩, by kernel_rfl⟩
theorem in_string : infoT Tryz.prog 9 (.string ⟨#[]⟩) 1 16 := ⟨by kernel_rfl, rfl⟩
theorem in_uint8 : infoT Tryz.prog 5 (.int .u8 0) 1 1 := ⟨by kernel_rfl, rfl⟩
theorem in_impl_Mapping : infoT Tryz.prog 101 (.agg #[.int .i64 0, .int .i64 0, .int .i64 0, .bool false]) 4 32 := ⟨by kernel_rfl, rfl⟩
def RetMem (w : World) (ps : Pg) (e : Ending) (w' : World) : Prop := ∃ a c, e = .returned (.agg #[.slice a ps.length c]) ∧ Owns w.heap.size w' ps [.slice a ps.length c] ∧ Ex w w'
theorem retMem {w0 w : World} {Is Js : List Asn} {ps : Pg} {v : Value} (h : St w0 w Is) (t : Take Is (ownA ps [v]) Js) : RetMem w0 ps (.returned (.agg #[v])) w := by
  obtain ⟨a, c, rfl⟩ := ownA.form h t
  exact ⟨a, c, rfl, h.owns t, h.ex⟩
theorem _root_.Go.Holds.sizes {w : World} {ps : Pg} {vs : List Value} (h : Holds w ps vs) : ∀ p ∈ ps, p.size ≤ maxLen := fun p hp => h.flok hp
theorem _root_.Go.St.rowByt {w0 w : World} {Is Js : List Asn} {b : Nat} {cs : List Value} {T : TypeId} (h : St w0 w Is) (t : Take Is (rowA b cs T) Js) (s : ByteArray) (hc : cs = byteCells s) : St w0 w (bytA b s :: Js) := by
  subst hc
  exact (h.take t).same fun F hF => ⟨F, ⟨⟨_, _, _, hF.1, by simp [byteCells_length], fun j hj => by simp, fun j hj => frozen_row hF.1 j⟩, hF.2⟩, fun _ h => h⟩
set_option maxRecDepth 100000 in
set_option maxHeartbeats 4000000 in
theorem markText_any (K : Nat) (w : World) (h0 : 0 < K) (h1 : K ≤ 4611686018427387904) :
    Calls Tryz.prog 59 #[.int .i64 K] w fun e w' => e = .returned (.string (mtext K)) ∧ Ex w w' := by
  have hsz := dig_size K
  have hd0 : decide ((K : Int) ≤ 0) = false := decide_eq_false (by omega)
  have hd1 : decide (K = 0) = false := decide_eq_false (by omega)
  have HSZ := hid hsz
  have HS := St.start w
  go_enter Tryz.func59, Tryz.ntmps59
  go_wp2_with (first
        | ((with_reducible (show wpList _ _ _ (Oper.mk (some 12) (Op.buildSlice _ _ _) _ _ _ _ :: _) _ _)); refine wpList_bslice1_st (o := ⟨some 12, .buildSlice _ _ _, _, _, _, _⟩) rfl _ _ rfl _ Tryz.underlying176 in_uint8 (by decide) (by decide) (x := .int .u8 _) rfl vcs rfx HS ?_; clear HS; intro w12 b12 hb12 HS; replace HS := HS.rowByt tk ⟨#[B]⟩ (by simp [byteCells, hu8]))
        | ((with_reducible (show wpList _ _ _ (Oper.mk (some 12) (Op.buildSlice _ _ _) _ _ _ _ :: _) _ _)); refine wpList_bslice1_st (o := ⟨some 12, .buildSlice _ _ _, _, _, _, _⟩) rfl _ _ rfl _ Tryz.underlying176 in_uint8 (by decide) (by decide) (x := _) rfl vcs rfx HS ?_; clear HS; intro w12 b12 hb12 HS; replace HS := HS.rowByt tk ⟨#[B]⟩ (by simp [byteCells, hu8]))
        | ((with_reducible (show wpList _ _ _ (Oper.mk (some 13) (Op.convert _ _ _) _ _ _ _ :: _) _ _)); refine wpList_back_st (o := ⟨some 13, .convert _ _ _, _, _, _, _⟩) rfl _ _ _ rfl _ Tryz.underlying176 Tryz.underlying5 Tryz.underlying9 rfl HS tk rfx ?_))
  go_loopw [0, 3] (fun kv ov wr => ∃ (n : Nat) (t : ByteArray), n ≤ K ∧ dig n ++ t = dig K ∧ kv = .int .i64 n ∧ ov = .string t ∧ St w wr []) (fun kv _ _ => (intOf kv).toNat)
  case atStart => exact ⟨K, ⟨#[]⟩, Nat.le_refl _, ba_append_nil _, rfl, rfl, (HS.arr (by repeat (first | exact Arr.nil | (with_reducible exact take_all _) | (refine Arr.cons tk ?_) | (refine arr_skip ?_))))⟩
  case round =>
    clear HS
    obtain ⟨n, t, hn, ht, rfl, rfl, HS⟩ := hrel
    by_cases h0 : n = 0
    case pos =>
      subst h0
      have hts : t.size ≤ K := by have := congrArg ByteArray.size ht; rw [ByteArray.size_append] at this; omega
      rw [dig_zero, show (⟨#[]⟩ : ByteArray) ++ t = t from ByteArray.empty_append] at ht
      have HT := hid ht
      clear ht hsz
      have hl : ¬ (9223372036854775807 < 1 + t.size) := by omega
      go_wp2_with (first
            | ((with_reducible (show wpList _ _ _ (Oper.mk (some 12) (Op.buildSlice _ _ _) _ _ _ _ :: _) _ _)); refine wpList_bslice1_st (o := ⟨some 12, .buildSlice _ _ _, _, _, _, _⟩) rfl _ _ rfl _ Tryz.underlying176 in_uint8 (by decide) (by decide) (x := .int .u8 _) rfl vcs rfx HS ?_; clear HS; intro w12 b12 hb12 HS; replace HS := HS.rowByt tk ⟨#[B]⟩ (by simp [byteCells, hu8]))
            | ((with_reducible (show wpList _ _ _ (Oper.mk (some 12) (Op.buildSlice _ _ _) _ _ _ _ :: _) _ _)); refine wpList_bslice1_st (o := ⟨some 12, .buildSlice _ _ _, _, _, _, _⟩) rfl _ _ rfl _ Tryz.underlying176 in_uint8 (by decide) (by decide) (x := _) rfl vcs rfx HS ?_; clear HS; intro w12 b12 hb12 HS; replace HS := HS.rowByt tk ⟨#[B]⟩ (by simp [byteCells, hu8]))
            | ((with_reducible (show wpList _ _ _ (Oper.mk (some 13) (Op.convert _ _ _) _ _ _ _ :: _) _ _)); refine wpList_back_st (o := ⟨some 13, .convert _ _ _, _, _, _, _⟩) rfl _ _ _ rfl _ Tryz.underlying176 Tryz.underlying5 Tryz.underlying9 rfl HS tk rfx ?_))
      go_ret
      exact ⟨ret_str (by rw [HT.out]; rfl), HS.ex⟩
    case neg =>
      have hn0 : 0 < n := by omega
      have hts : t.size + 1 ≤ K := by
        have h1 := congrArg ByteArray.size ht
        rw [ByteArray.size_append, dig_pos hn0, ByteArray.size_append] at h1
        have h2 : (⟨#[UInt8.ofNat (48 + n % 10)]⟩ : ByteArray).size = 1 := rfl
        omega
      rw [dig_pos hn0, ByteArray.append_assoc] at ht
      have hu8 : (UInt8.ofNat (48 + n % 10)).toNat = 48 + n % 10 := by rw [UInt8.toNat_ofNat']; omega
      generalize UInt8.ofNat (48 + n % 10) = B at *
      have q1 : (n : Int).tmod 10 = ((n % 10 : Nat) : Int) := by rw [Int.tmod_eq_emod_of_nonneg (by omega)]; omega
      have q2 : (n : Int).tdiv 10 = ((n / 10 : Nat) : Int) := by rw [Int.tdiv_eq_ediv_of_nonneg (by omega)]; omega
      have hm9 : n % 10 ≤ 9 := by omega
      have HT := hid ht
      clear ht hsz h0
      go_wp2_with (first
            | ((with_reducible (show wpList _ _ _ (Oper.mk (some 12) (Op.buildSlice _ _ _) _ _ _ _ :: _) _ _)); refine wpList_bslice1_st (o := ⟨some 12, .buildSlice _ _ _, _, _, _, _⟩) rfl _ _ rfl _ Tryz.underlying176 in_uint8 (by decide) (by decide) (x := .int .u8 _) rfl vcs rfx HS ?_; clear HS; intro w12 b12 hb12 HS; replace HS := HS.rowByt tk ⟨#[B]⟩ (by simp [byteCells, hu8]))
            | ((with_reducible (show wpList _ _ _ (Oper.mk (some 12) (Op.buildSlice _ _ _) _ _ _ _ :: _) _ _)); refine wpList_bslice1_st (o := ⟨some 12, .buildSlice _ _ _, _, _, _, _⟩) rfl _ _ rfl _ Tryz.underlying176 in_uint8 (by decide) (by decide) (x := _) rfl vcs rfx HS ?_; clear HS; intro w12 b12 hb12 HS; replace HS := HS.rowByt tk ⟨#[B]⟩ (by simp [byteCells, hu8]))
            | ((with_reducible (show wpList _ _ _ (Oper.mk (some 13) (Op.convert _ _ _) _ _ _ _ :: _) _ _)); refine wpList_back_st (o := ⟨some 13, .convert _ _ _, _, _, _, _⟩) rfl _ _ _ rfl _ Tryz.underlying176 Tryz.underlying5 Tryz.underlying9 rfl HS tk rfx ?_))
      go_roundw
      case rel => exact ⟨n / 10, _, by omega, HT.out, rfl, rfl, (HS.arr (by repeat (first | exact Arr.nil | (with_reducible exact take_all _) | (refine Arr.cons tk ?_) | (refine arr_skip ?_))))⟩
      case measure => simp [intOf]; omega
theorem mtexts_step {ps : Pg} {K i : Nat} (h : i < ps.length) : (mtexts i K ++ ps.drop i).set i (mtext (K + i)) = mtexts (i + 1) K ++ ps.drop (i + 1) := by
  rw [List.set_append_right _ _ (by rw [mtexts_length]; exact Nat.le_refl _), mtexts_length, Nat.sub_self, List.drop_eq_getElem_cons h, List.set_cons_zero]
  unfold mtexts
  rw [List.range_succ, List.map_append, List.append_assoc]
  rfl
def totS (ps : Pg) : Nat := (ps.map (·.size)).sum
theorem totS_take (ps : Pg) (k : Nat) (h : k < ps.length) : totS (ps.take (k + 1)) = totS (ps.take k) + ps[k].size := by
  unfold totS; rw [List.take_succ_eq_append_getElem h, List.map_append, List.sum_append, List.map_singleton, List.sum_singleton]
theorem totS_take_le (ps : Pg) (k : Nat) : totS (ps.take k) ≤ totS ps := by
  have := congrArg totS (List.take_append_drop k ps)
  unfold totS at this ⊢
  rw [List.map_append, List.sum_append] at this; omega
theorem totS_all (ps : Pg) : totS (ps.take ps.length) = totS ps := by rw [List.take_length]
theorem nil_ok : Flat.ok (⟨#[]⟩ : ByteArray) := Nat.zero_le _
set_option maxRecDepth 100000 in
set_option maxHeartbeats 4000000 in
theorem toStringS_any (v : Value) (ps : Pg) (w : World) (k1 : Holds w ps [v]) (hl : ps.length ≤ 1099511627776) :
    Calls Tryz.prog 49 #[v] w (RetSl w ps) := by
  obtain ⟨AA, cap, rfl, z1, z2⟩ := k1.fl
  unfold maxLen at z2
  have HS := St.start w
  go_enter Tryz.func49, Tryz.ntmps49
  go_wp2_with (first
        | ((with_reducible (show wpList _ _ _ (Oper.mk (some 7) (Op.makeSlice _ _ _) _ _ _ _ :: _) _ _)); refine wpList_makeF_st (y0 := (⟨#[]⟩ : ByteArray)) (o := ⟨some 7, .makeSlice _ _ _, _, _, _, _⟩) rfl _ _ _ rfl _ Tryz.underlying23 in_string (n := ps.length) rfl rfl rfl rfx nil_ok (by omega) mxl HS ?_; clear HS; intro w7 b7 hb7 HS)
        | ((with_reducible (show wpList _ _ _ (Oper.mk (some 19) (Op.load _ _) _ _ _ _ :: _) _ _)); refine wpList_loadHF (o := ⟨some 19, .load _ _, _, _, _, _⟩) rfl _ _ rfl rfl HS (fun _ hs => k1.ex hs.ex) HK.out 1 0 (by first | rfl | (simp; done) | omega) rfl (by decide) sc_string flt ?_)
        | ((with_reducible (show wpList _ _ _ (Oper.mk none (Op.store _ (.tmp 20) _) _ _ _ _ :: _) _ _)); refine wpList_storeE_st (o := ⟨none, .store _ (.tmp 20) _, _, _, _, _⟩) rfl _ _ _ rfl rfl (v := .string _) rfl HS tk sz_string 1 0 rfl (by first | rfl | (simp; done) | omega) hfl vcs rfx rfx HKF.out (el := x) HOK.out rfx (by simp) ?_ rfl; clear HS; intro w5_7 hz5_7 HS))
  rw [← fillL_zero ps ⟨#[]⟩] at HS
  go_loopw [4] (fun i wr => ∃ k : Nat, k ≤ ps.length ∧ i = .int .i64 k ∧ St w wr [ownA (fillL ps ⟨#[]⟩ k) [.slice (some ⟨b7, 0, none⟩) ps.length ps.length]]) (fun i _ => ps.length - (intOf i).toNat)
  case atStart => exact ⟨0, Nat.zero_le _, rfl, HS⟩
  case round =>
    clear HS
    obtain ⟨k, hkl, rfl, HS⟩ := hrel
    by_cases hlt : k < ps.length
    case pos =>
      obtain ⟨b, off, rfl⟩ := k1.flA (by omega)
      have hfl : k < (fillL ps (⟨#[]⟩ : ByteArray) k).length := by rw [fillL_length _ _ hkl]; exact hlt
      have HST := hid (fillL_set ps (⟨#[]⟩ : ByteArray) hlt)
      have HKF := hid (fillL_get ps (⟨#[]⟩ : ByteArray) hlt)
      have HOK : Hid (Flat.ok ps[k]) := hid (k1.sizes _ (List.getElem_mem hlt))
      have HK := hid (List.getElem?_eq_getElem hlt)
      generalize ps[k] = x at *
      go_wp2_with (first
            | ((with_reducible (show wpList _ _ _ (Oper.mk (some 7) (Op.makeSlice _ _ _) _ _ _ _ :: _) _ _)); refine wpList_makeF_st (y0 := (⟨#[]⟩ : ByteArray)) (o := ⟨some 7, .makeSlice _ _ _, _, _, _, _⟩) rfl _ _ _ rfl _ Tryz.underlying23 in_string (n := ps.length) rfl rfl rfl rfx nil_ok (by omega) mxl HS ?_; clear HS; intro w7 b7 hb7 HS)
            | ((with_reducible (show wpList _ _ _ (Oper.mk (some 19) (Op.load _ _) _ _ _ _ :: _) _ _)); refine wpList_loadHF (o := ⟨some 19, .load _ _, _, _, _, _⟩) rfl _ _ rfl rfl HS (fun _ hs => k1.ex hs.ex) HK.out 1 0 (by first | rfl | (simp; done) | omega) rfl (by decide) sc_string flt ?_)
            | ((with_reducible (show wpList _ _ _ (Oper.mk none (Op.store _ (.tmp 20) _) _ _ _ _ :: _) _ _)); refine wpList_storeE_st (o := ⟨none, .store _ (.tmp 20) _, _, _, _, _⟩) rfl _ _ _ rfl rfl (v := .string _) rfl HS tk sz_string 1 0 rfl (by first | rfl | (simp; done) | omega) hfl vcs rfx rfx HKF.out (el := x) HOK.out rfx (by simp) ?_ rfl; clear HS; intro w5_7 hz5_7 HS))
      rw [HST.out] at HS
      go_roundw
      case rel => exact ⟨k + 1, hlt, by go_num, HS⟩
      case measure => simp [intOf]; omega
    case neg =>
      obtain rfl : k = ps.length := by omega
      rw [fillL_all] at HS
      go_wp2_with (first
            | ((with_reducible (show wpList _ _ _ (Oper.mk (some 7) (Op.makeSlice _ _ _) _ _ _ _ :: _) _ _)); refine wpList_makeF_st (y0 := (⟨#[]⟩ : ByteArray)) (o := ⟨some 7, .makeSlice _ _ _, _, _, _, _⟩) rfl _ _ _ rfl _ Tryz.underlying23 in_string (n := ps.length) rfl rfl rfl rfx nil_ok (by omega) mxl HS ?_; clear HS; intro w7 b7 hb7 HS)
            | ((with_reducible (show wpList _ _ _ (Oper.mk (some 19) (Op.load _ _) _ _ _ _ :: _) _ _)); refine wpList_loadHF (o := ⟨some 19, .load _ _, _, _, _, _⟩) rfl _ _ rfl rfl HS (fun _ hs => k1.ex hs.ex) HK.out 1 0 (by first | rfl | (simp; done) | omega) rfl (by decide) sc_string flt ?_)
            | ((with_reducible (show wpList _ _ _ (Oper.mk none (Op.store _ (.tmp 20) _) _ _ _ _ :: _) _ _)); refine wpList_storeE_st (o := ⟨none, .store _ (.tmp 20) _, _, _, _, _⟩) rfl _ _ _ rfl rfl (v := .string _) rfl HS tk sz_string 1 0 rfl (by first | rfl | (simp; done) | omega) hfl vcs rfx rfx HKF.out (el := x) HOK.out rfx (by simp) ?_ rfl; clear HS; intro w5_7 hz5_7 HS))
      go_ret
      exact HS.ret tk
set_option maxRecDepth 100000 in
set_option maxHeartbeats 4000000 in
theorem toMemory_any (v : Value) (ps : Pg) (w : World) (k1 : Holds w ps [v]) (hl : ps.length ≤ 1099511627776) :
    Calls Tryz.prog 10 #[.agg #[v]] w (RetMem w ps) := by
  obtain ⟨AA, cap, rfl, z1, z2⟩ := k1.fl
  unfold maxLen at z2
  have HS := St.start w
  go_enter Tryz.func10, Tryz.ntmps10
  go_wp2_with (first
        | (go_at_call 49; (with_reducible refine (toStringS_any _ ps _ (k1.ex HS.ex) hl).mono ?_); rintro e w' ⟨a1, c1, rfl, ho, hx⟩; replace HS := HS.own ho hx; clear ho hx)
        | ((with_reducible (show wpList _ _ _ (Oper.mk (some 1) (Op.box _ _) _ _ _ _ :: _) _ _)); refine wpList_box_st (o := ⟨some 1, .box _ _, _, _, _, _⟩) rfl _ _ rfl (v := .agg (List.toArray _)) rfl HS ?_; clear HS; intro w1 b1 hb1 HS; simp only [Value.cells] at HS)
        | ((with_reducible (show wpList _ _ _ (Oper.mk (some 1) (Op.box _ _) _ _ _ _ :: _) _ _)); refine wpList_box_st (o := ⟨some 1, .box _ _, _, _, _, _⟩) rfl _ _ rfl (v := .agg _) rfl HS ?_; clear HS; intro w1 b1 hb1 HS; simp only [Value.cells] at HS)
        | ((with_reducible (show wpList _ _ _ (Oper.mk (some 2) (Op.alloc _) _ _ _ _ :: _) _ _)); refine wpList_alloc_st (o := ⟨some 2, .alloc _, _, _, _, _⟩) rfl _ rfl zc_impl_Memory HS ?_; clear HS; intro w2 b2 hb2 HS)
        | ((with_reducible (show wpList _ _ _ (Oper.mk (some 3) (Op.alloc _) _ _ _ _ :: _) _ _)); refine wpList_alloc_st (o := ⟨some 3, .alloc _, _, _, _, _⟩) rfl _ rfl zc_impl_Memory HS ?_; clear HS; intro w3 b3 hb3 HS)
        | ((with_reducible (show wpList _ _ _ (Oper.mk (some 5) (Op.load _ _) _ _ _ _ :: _) _ _)); refine wpList_loadS_st (o := ⟨some 5, .load _ _, _, _, _, _⟩) rfl _ _ rfl rfl HS tk sc_Sstring rfx ?_)
        | ((with_reducible (show wpList _ _ _ (Oper.mk none (Op.store _ (.tmp 7) _) _ _ _ _ :: _) _ _)); refine wpList_store_st (o := ⟨none, .store _ (.tmp 7) _, _, _, _, _⟩) rfl _ _ _ rfl rfl (v := .slice _ _ _) rfl HS tk sz_Sstring vcs rfx rfx (by simp) ?_ rfl; clear HS; intro w2_4 hz2_4 HS; simp only [nicL, Value.cells, List.append_nil] at HS)
        | ((with_reducible (show wpList _ _ _ (Oper.mk (some 8) (Op.load _ _) _ _ _ _ :: _) _ _)); refine wpList_loadA_st (o := ⟨some 8, .load _ _, _, _, _, _⟩) rfl _ _ rfl rfl HS tk ag_impl_Memory lit rfl ?_)
        | ((with_reducible (show wpList _ _ _ (Oper.mk none (Op.store _ (.tmp 2) _) _ _ _ _ :: _) _ _)); refine wpList_store_st (o := ⟨none, .store _ (.tmp 2) _, _, _, _, _⟩) rfl _ _ _ rfl rfl (v := .agg (List.toArray _)) rfl HS tk sz_impl_Memory vcs rfx rfx (by simp) ?_ rfl; clear HS; intro w3_1 hz3_1 HS; simp only [nicL, Value.cells, List.append_nil] at HS)
        | ((with_reducible (show wpList _ _ _ (Oper.mk none (Op.store _ (.tmp 2) _) _ _ _ _ :: _) _ _)); refine wpList_store_st (o := ⟨none, .store _ (.tmp 2) _, _, _, _, _⟩) rfl _ _ _ rfl rfl (v := .agg _) rfl HS tk sz_impl_Memory vcs rfx rfx (by simp) ?_ rfl; clear HS; intro w3_1 hz3_1 HS; simp only [nicL, Value.cells, List.append_nil] at HS))
  refine bodyPost_retc rfx rfx HS tk ag_impl_Memory rfx rfx ?_
  exact retMem HS tk
set_option maxRecDepth 100000 in
set_option maxHeartbeats 4000000 in
theorem szStringS_le (v : Value) (ps : Pg) (l : Int) (w : World) (k1 : Holds w ps [v]) (hl : l ≤ 1048576) (hs : ((ps.length + totS ps : Nat) : Int) ≤ l) :
    Calls Tryz.prog 39 #[v, .int .i64 l] w fun e w' => e = .returned (.int .i64 (l - ((ps.length + totS ps : Nat) : Int))) ∧ Ex w w' := by
  obtain ⟨AA, cap, rfl, z1, z2⟩ := k1.fl
  unfold maxLen at z2
  have HS := St.start w
  go_enter Tryz.func39, Tryz.ntmps39
  go_wp2_with (first
        | ((with_reducible (show wpList _ _ _ (Oper.mk (some 22) (Op.load _ _) _ _ _ _ :: _) _ _)); refine wpList_loadHF (o := ⟨some 22, .load _ _, _, _, _, _⟩) rfl _ _ rfl rfl HS (fun _ hs => k1.ex hs.ex) HK.out 1 0 (by first | rfl | (simp; done) | omega) rfl (by decide) sc_string flt ?_))
  go_loopw [1, 5] (fun lv i wr => ∃ k : Nat, k ≤ ps.length ∧ lv = .int .i64 (l - ((ps.length + totS (ps.take k) : Nat) : Int)) ∧ i = .int .i64 k ∧ St w wr []) (fun _ i _ => ps.length - (intOf i).toNat)
  case atStart => exact ⟨0, Nat.zero_le _, by simp [totS], rfl, (HS.arr (by repeat (first | exact Arr.nil | (with_reducible exact take_all _) | (refine Arr.cons tk ?_) | (refine arr_skip ?_))))⟩
  case round =>
    clear HS
    obtain ⟨k, hkl, rfl, rfl, HS⟩ := hrel
    by_cases hlt : k < ps.length
    case pos =>
      obtain ⟨b, off, rfl⟩ := k1.flA (by omega)
      have ht := totS_take ps k hlt
      have ht2 := totS_take_le ps (k + 1)
      have hxm := k1.sizes _ (List.getElem_mem hlt)
      unfold maxLen at hxm
      have HK := hid (List.getElem?_eq_getElem hlt)
      generalize ps[k] = x at *
      rw [ht] at ht2
      have HT := hid ht
      generalize totS (ps.take k) = T at *
      generalize totS ps = TT at *
      clear ht
      go_wp2_with (first
            | ((with_reducible (show wpList _ _ _ (Oper.mk (some 22) (Op.load _ _) _ _ _ _ :: _) _ _)); refine wpList_loadHF (o := ⟨some 22, .load _ _, _, _, _, _⟩) rfl _ _ rfl rfl HS (fun _ hs => k1.ex hs.ex) HK.out 1 0 (by first | rfl | (simp; done) | omega) rfl (by decide) sc_string flt ?_))
      go_roundw
      case rel => exact ⟨k + 1, hlt, by rw [HT.out]; congr 1; omega, by go_num, (HS.arr (by repeat (first | exact Arr.nil | (with_reducible exact take_all _) | (refine Arr.cons tk ?_) | (refine arr_skip ?_))))⟩
      case measure => simp [intOf]; omega
    case neg =>
      obtain rfl : k = ps.length := by omega
      rw [totS_all] at *
      go_wp2_with (first
            | ((with_reducible (show wpList _ _ _ (Oper.mk (some 22) (Op.load _ _) _ _ _ _ :: _) _ _)); refine wpList_loadHF (o := ⟨some 22, .load _ _, _, _, _, _⟩) rfl _ _ rfl rfl HS (fun _ hs => k1.ex hs.ex) HK.out 1 0 (by first | rfl | (simp; done) | omega) rfl (by decide) sc_string flt ?_))
      go_ret
      exact ⟨rfl, HS.ex⟩
set_option maxRecDepth 100000 in
set_option maxHeartbeats 4000000 in
theorem szStringS_gt (v : Value) (ps : Pg) (l : Int) (w : World) (k1 : Holds w ps [v]) (hl : l ≤ 1048576) (h0 : 0 ≤ l) (hs : l < ((ps.length + totS ps : Nat) : Int)) :
    Calls Tryz.prog 39 #[v, .int .i64 l] w fun e w' => e = .returned (.int .i64 (-1)) ∧ Ex w w' := by
  obtain ⟨AA, cap, rfl, z1, z2⟩ := k1.fl
  unfold maxLen at z2
  by_cases hfirst : l < ps.length
  case pos =>
    have HS := St.start w
    go_enter Tryz.func39, Tryz.ntmps39
    go_wp2_with (first
          | ((with_reducible (show wpList _ _ _ (Oper.mk (some 22) (Op.load _ _) _ _ _ _ :: _) _ _)); refine wpList_loadHF (o := ⟨some 22, .load _ _, _, _, _, _⟩) rfl _ _ rfl rfl HS (fun _ hs => k1.ex hs.ex) HK.out 1 0 (by first | rfl | (simp; done) | omega) rfl (by decide) sc_string flt ?_))
    go_ret
    exact ⟨rfl, HS.ex⟩
  case neg =>
  have HS := St.start w
  go_enter Tryz.func39, Tryz.ntmps39
  go_wp2_with (first
        | ((with_reducible (show wpList _ _ _ (Oper.mk (some 22) (Op.load _ _) _ _ _ _ :: _) _ _)); refine wpList_loadHF (o := ⟨some 22, .load _ _, _, _, _, _⟩) rfl _ _ rfl rfl HS (fun _ hs => k1.ex hs.ex) HK.out 1 0 (by first | rfl | (simp; done) | omega) rfl (by decide) sc_string flt ?_))
  go_loopw [1, 5] (fun lv i wr => ∃ k : Nat, k ≤ ps.length ∧ ((ps.length + totS (ps.take k) : Nat) : Int) ≤ l ∧ lv = .int .i64 (l - ((ps.length + totS (ps.take k) : Nat) : Int)) ∧ i = .int .i64 k ∧ St w wr []) (fun _ i _ => ps.length - (intOf i).toNat)
  case atStart => exact ⟨0, Nat.zero_le _, by simp [totS]; omega, by simp [totS], rfl, (HS.arr (by repeat (first | exact Arr.nil | (with_reducible exact take_all _) | (refine Arr.cons tk ?_) | (refine arr_skip ?_))))⟩
  case round =>
    clear HS
    obtain ⟨k, hkl, hle, rfl, rfl, HS⟩ := hrel
    by_cases hlt : k < ps.length
    case pos =>
      obtain ⟨b, off, rfl⟩ := k1.flA (by omega)
      have ht := totS_take ps k hlt
      have ht2 := totS_take_le ps (k + 1)
      have hxm := k1.sizes _ (List.getElem_mem hlt)
      unfold maxLen at hxm
      have HK := hid (List.getElem?_eq_getElem hlt)
      generalize ps[k] = x at *
      rw [ht] at ht2
      have HT := hid ht
      generalize totS (ps.take k) = T at *
      generalize totS ps = TT at *
      clear ht
      by_cases hov : l < ((ps.length + (T + x.size) : Nat) : Int)
      case pos =>
        go_wp2_with (first
              | ((with_reducible (show wpList _ _ _ (Oper.mk (some 22) (Op.load _ _) _ _ _ _ :: _) _ _)); refine wpList_loadHF (o := ⟨some 22, .load _ _, _, _, _, _⟩) rfl _ _ rfl rfl HS (fun _ hs => k1.ex hs.ex) HK.out 1 0 (by first | rfl | (simp; done) | omega) rfl (by decide) sc_string flt ?_))
        go_ret
        exact ⟨rfl, HS.ex⟩
      case neg =>
        go_wp2_with (first
              | ((with_reducible (show wpList _ _ _ (Oper.mk (some 22) (Op.load _ _) _ _ _ _ :: _) _ _)); refine wpList_loadHF (o := ⟨some 22, .load _ _, _, _, _, _⟩) rfl _ _ rfl rfl HS (fun _ hs => k1.ex hs.ex) HK.out 1 0 (by first | rfl | (simp; done) | omega) rfl (by decide) sc_string flt ?_))
        go_roundw
        case rel => exact ⟨k + 1, hlt, by rw [HT.out]; omega, by rw [HT.out]; congr 1; omega, by go_num, (HS.arr (by repeat (first | exact Arr.nil | (with_reducible exact take_all _) | (refine Arr.cons tk ?_) | (refine arr_skip ?_))))⟩
        case measure => simp [intOf]; omega
    case neg =>
      obtain rfl : k = ps.length := by omega
      rw [totS_all] at hle; omega
set_option maxRecDepth 100000 in
set_option maxHeartbeats 4000000 in
theorem szMemory_le (v : Value) (ps : Pg) (l : Int) (w : World) (k1 : Holds w ps [v]) (hl : l ≤ 1048576) (hs : ((ps.length + totS ps : Nat) : Int) ≤ l) :
    Calls Tryz.prog 7 #[.agg #[v], .int .i64 l] w fun e w' => e = .returned (.int .i64 (l - ((ps.length + totS ps : Nat) : Int))) ∧ Ex w w' := by
  obtain ⟨AA, cap, rfl, z1, z2⟩ := k1.fl
  unfold maxLen at z2
  have HS := St.start w
  go_enter Tryz.func7, Tryz.ntmps7
  go_wp2_with (first
        | (go_at_call 39; (with_reducible refine (szStringS_le _ ps l _ (k1.ex HS.ex) hl hs).mono ?_); rintro e w' ⟨rfl, hx⟩; replace HS := HS.grow hx; clear hx)
        | ((with_reducible (show wpList _ _ _ (Oper.mk (some 2) (Op.box _ _) _ _ _ _ :: _) _ _)); refine wpList_box_st (o := ⟨some 2, .box _ _, _, _, _, _⟩) rfl _ _ rfl (v := .agg (List.toArray _)) rfl HS ?_; clear HS; intro w2 b2 hb2 HS; simp only [Value.cells] at HS)
        | ((with_reducible (show wpList _ _ _ (Oper.mk (some 2) (Op.box _ _) _ _ _ _ :: _) _ _)); refine wpList_box_st (o := ⟨some 2, .box _ _, _, _, _, _⟩) rfl _ _ rfl (v := .agg _) rfl HS ?_; clear HS; intro w2 b2 hb2 HS; simp only [Value.cells] at HS)
        | ((with_reducible (show wpList _ _ _ (Oper.mk (some 6) (Op.load _ _) _ _ _ _ :: _) _ _)); refine wpList_loadS_st (o := ⟨some 6, .load _ _, _, _, _, _⟩) rfl _ _ rfl rfl HS tk sc_Sstring rfx ?_))
  go_ret
  exact ⟨rfl, HS.ex⟩
set_option maxRecDepth 100000 in
set_option maxHeartbeats 4000000 in
theorem szMemory_gt (v : Value) (ps : Pg) (l : Int) (w : World) (k1 : Holds w ps [v]) (hl : l ≤ 1048576) (h0 : 0 ≤ l) (hs : l < ((ps.length + totS ps : Nat) : Int)) :
    Calls Tryz.prog 7 #[.agg #[v], .int .i64 l] w fun e w' => e = .returned (.int .i64 (-1)) ∧ Ex w w' := by
  obtain ⟨AA, cap, rfl, z1, z2⟩ := k1.fl
  unfold maxLen at z2
  have HS := St.start w
  go_enter Tryz.func7, Tryz.ntmps7
  go_wp2_with (first
        | (go_at_call 39; (with_reducible refine (szStringS_gt _ ps l _ (k1.ex HS.ex) hl h0 hs).mono ?_); rintro e w' ⟨rfl, hx⟩; replace HS := HS.grow hx; clear hx)
        | ((with_reducible (show wpList _ _ _ (Oper.mk (some 2) (Op.box _ _) _ _ _ _ :: _) _ _)); refine wpList_box_st (o := ⟨some 2, .box _ _, _, _, _, _⟩) rfl _ _ rfl (v := .agg (List.toArray _)) rfl HS ?_; clear HS; intro w2 b2 hb2 HS; simp only [Value.cells] at HS)
        | ((with_reducible (show wpList _ _ _ (Oper.mk (some 2) (Op.box _ _) _ _ _ _ :: _) _ _)); refine wpList_box_st (o := ⟨some 2, .box _ _, _, _, _, _⟩) rfl _ _ rfl (v := .agg _) rfl HS ?_; clear HS; intro w2 b2 hb2 HS; simp only [Value.cells] at HS)
        | ((with_reducible (show wpList _ _ _ (Oper.mk (some 6) (Op.load _ _) _ _ _ _ :: _) _ _)); refine wpList_loadS_st (o := ⟨some 6, .load _ _, _, _, _, _⟩) rfl _ _ rfl rfl HS tk sc_Sstring rfx ?_))
  go_ret
  exact ⟨rfl, HS.ex⟩
set_option maxRecDepth 100000 in
set_option maxHeartbeats 4000000 in
theorem eqStringS_same (v1 v2 : Value) (ps : Pg) (w : World) (k1 : Holds w ps [v1]) (k2 : Holds w ps [v2]) :
    Calls Tryz.prog 14 #[v1, v2] w fun e w' => e = .returned (.bool true) ∧ Ex w w' := by
  obtain ⟨AA, cap, rfl, z1, z2⟩ := k1.fl
  unfold maxLen at z2
  obtain ⟨BB, cap2, rfl, y1, y2⟩ := k2.fl
  unfold maxLen at y2
  have HS := St.start w
  go_enter Tryz.func14, Tryz.ntmps14
  go_wp2
  go_loopw [5] (fun i wr => ∃ k : Nat, k ≤ ps.length ∧ i = .int .i64 k ∧ St w wr []) (fun i _ => ps.length - (intOf i).toNat)
  case atStart => exact ⟨0, Nat.zero_le _, rfl, (HS.arr (by repeat (first | exact Arr.nil | (with_reducible exact take_all _) | (refine Arr.cons tk ?_) | (refine arr_skip ?_))))⟩
  case round =>
    clear HS
    obtain ⟨k, hkl, rfl, HS⟩ := hrel
    by_cases hlt : k < ps.length
    case pos =>
      obtain ⟨b, off, rfl⟩ := k1.flA (by omega)
      obtain ⟨b', off', rfl⟩ := k2.flA (by omega)
      have HK := hid (List.getElem?_eq_getElem hlt)
      generalize ps[k] = x at *
      go_wp2
      refine wp_region_plan_st HS (.early 0 (.early 1 (.early 2 (.early 3 (.early 4 (.forced 5 1 (.forced 6 1 (.forced 7 1 (.forced 8 2 .done))))))))) (by kernel_rfl) (by as_aux_lemma => kernel_rfl) ?_
      intro hne
      replace HS := HS.drew
      try go_simp
      repeat' (first
        | (with_reducible refine wpPlan_forced ?_)
        | ((with_reducible (first | (show wpPlan _ _ _ _ (.early 0 _) _ _) | (show wpPlan _ _ _ _ (.early 1 _) _ _) | (show wpPlan _ _ _ _ (.early 2 _) _ _) | (show wpPlan _ _ _ _ (.early 4 _) _ _))); (first | (refine wpPlan_skipE rfl rfl ?_; (try go_simp)) | (refine wpPlan_early rfl rfl ?_; intro K hK; (first | go_big_quiet_op); (first | go_big_quiet_on | (refine ⟨_, fun _ => rfl, ?_⟩; go_big_quiet_on)))))
        | ((with_reducible ((show wpPlan _ _ _ _ (.early 3 _) _ _))); (first | (refine wpPlan_skipE rfl rfl ?_; (try go_simp)) | (refine wpPlan_early rfl rfl ?_; intro K hK; (first | ((refine quiet_loadHF  _ _ rfl rfl (fun _ hs => k1.ex hs.ex) HK.out 1 0 (by first | rfl | (simp; done) | omega) rfl (by decide) sc_string flt ?_); (try go_simp)) | go_big_quiet_op); (first | go_big_quiet_on | (refine ⟨_, fun _ => rfl, ?_⟩; go_big_quiet_on)))))
        | ((with_reducible (first | (show wpOne _ _ _ _ 5 1 _ _ _) | (show wpOne _ _ _ _ 6 1 _ _ _))); (first | (refine wpOne_skip rfl rfl ?_; (try go_simp)) | (refine wpOne_1 rfl rfl ?_; intro K hK; go_simp; refine hK _ _ ?_ ?_; (focus (exact stw HS)); clear hK K)))
        | ((with_reducible ((show wpOne _ _ _ _ 7 1 _ _ _))); (first | (refine wpOne_skip rfl rfl ?_; (try go_simp)) | (refine wpOne_1 rfl rfl ?_; intro K hK; (first | (refine wp_loadHF  _ _ rfl rfl HS (fun _ hs => k2.ex hs.ex) HK.out 1 0 (by first | rfl | (simp; done) | omega) rfl (by decide) sc_string flt ?_)); (try go_simp); refine hK _ _ ?_ ?_; (focus (exact stw HS)); clear hK K)))
        | ((with_reducible ((show wpOne _ _ _ _ 8 2 _ _ _))); (first | (refine wpOne_skip rfl rfl ?_; (try go_simp)) | (refine wpOne_2 rfl rfl ?_; intro K hK; go_simp; refine hK _ _ ?_; clear hK K)))
        | (with_reducible refine wpPlan_done ?_))
      go_wp2
      go_roundw
      case rel => exact ⟨k + 1, hlt, by go_num, (HS.arr (by repeat (first | exact Arr.nil | (with_reducible exact take_all _) | (refine Arr.cons tk ?_) | (refine arr_skip ?_))))⟩
      case measure => simp [intOf]; omega
    case neg =>
      obtain rfl : k = ps.length := by omega
      go_wp2
      go_ret
      exact ⟨rfl, HS.ex⟩
set_option maxRecDepth 100000 in
set_option maxHeartbeats 4000000 in
theorem eqMemory_same (v1 v2 : Value) (ps : Pg) (w : World) (k1 : Holds w ps [v1]) (k2 : Holds w ps [v2]) :
    Calls Tryz.prog 16 #[.agg #[v1], .agg #[v2]] w fun e w' => e = .returned (.bool true) ∧ Ex w w' := by
  have HS := St.start w
  go_enter Tryz.func16, Tryz.ntmps16
  go_wp2_with (first
        | (go_at_call 14; (with_reducible refine (eqStringS_same _ _ ps _ (k1.ex HS.ex) (k2.ex HS.ex)).mono ?_); rintro e w' ⟨rfl, hx⟩; replace HS := HS.grow hx; clear hx)
        | ((with_reducible (show wpList _ _ _ (Oper.mk (some 2) (Op.box _ _) _ _ _ _ :: _) _ _)); refine wpList_box_st (o := ⟨some 2, .box _ _, _, _, _, _⟩) rfl _ _ rfl (v := .agg (List.toArray _)) rfl HS ?_; clear HS; intro w2 b2 hb2 HS; simp only [Value.cells] at HS)
        | ((with_reducible (show wpList _ _ _ (Oper.mk (some 2) (Op.box _ _) _ _ _ _ :: _) _ _)); refine wpList_box_st (o := ⟨some 2, .box _ _, _, _, _, _⟩) rfl _ _ rfl (v := .agg _) rfl HS ?_; clear HS; intro w2 b2 hb2 HS; simp only [Value.cells] at HS)
        | ((with_reducible (show wpList _ _ _ (Oper.mk (some 3) (Op.box _ _) _ _ _ _ :: _) _ _)); refine wpList_box_st (o := ⟨some 3, .box _ _, _, _, _, _⟩) rfl _ _ rfl (v := .agg (List.toArray _)) rfl HS ?_; clear HS; intro w3 b3 hb3 HS; simp only [Value.cells] at HS)
        | ((with_reducible (show wpList _ _ _ (Oper.mk (some 3) (Op.box _ _) _ _ _ _ :: _) _ _)); refine wpList_box_st (o := ⟨some 3, .box _ _, _, _, _, _⟩) rfl _ _ rfl (v := .agg _) rfl HS ?_; clear HS; intro w3 b3 hb3 HS; simp only [Value.cells] at HS)
        | ((with_reducible (show wpList _ _ _ (Oper.mk (some 6) (Op.load _ _) _ _ _ _ :: _) _ _)); refine wpList_loadS_st (o := ⟨some 6, .load _ _, _, _, _, _⟩) rfl _ _ rfl rfl HS tk sc_Sstring rfx ?_)
        | ((with_reducible (show wpList _ _ _ (Oper.mk (some 8) (Op.load _ _) _ _ _ _ :: _) _ _)); refine wpList_loadS_st (o := ⟨some 8, .load _ _, _, _, _, _⟩) rfl _ _ rfl rfl HS tk sc_Sstring rfx ?_))
  go_ret
  exact ⟨rfl, HS.ex⟩
set_option maxRecDepth 100000 in
set_option maxHeartbeats 4000000 in
theorem markStringS_st {w0 : World} {Js : List Asn} (v : Value) (ps : Pg) (q0 : Nat) (w : World) (HS : St w0 w (ownA ps [v] :: Js)) (h0 : 0 < q0) (h1 : q0 + ps.length ≤ 4611686018427387903) :
    Calls Tryz.prog 19 #[v, .int .i64 q0] w (fun e w' => e = .returned (.int .i64 ((q0 + ps.length : Nat) : Int)) ∧ St w0 w' (ownA (mtexts ps.length q0) [v] :: Js)) := by
  obtain ⟨A1, c1, rfl⟩ := ownA.form HS .head
  go_enter Tryz.func19, Tryz.ntmps19
  go_wp2_with (first
        | ((with_reducible (show wpList _ _ _ (Oper.mk none (Op.store _ (.tmp 16) _) _ _ _ _ :: _) _ _)); refine wpList_storeF_st (o := ⟨none, .store _ (.tmp 16) _, _, _, _, _⟩) rfl _ _ _ rfl rfl rfl HS tk sz_string rfl hfl (v := mtext q) HOK.out rfl rfl ?_ rfl; clear HS; intro w4_5 hz4_5 HS))
  go_loopw [1, 5] (fun kv i wr => ∃ k q : Nat, k ≤ ps.length ∧ q = q0 + k ∧ kv = .int .i64 (q : Int) ∧ i = .int .i64 k ∧ St w0 wr (ownA (mtexts k q0 ++ ps.drop k) [.slice A1 ps.length c1] :: Js)) (fun _ i _ => ps.length - (intOf i).toNat)
  case atStart => exact ⟨0, q0, Nat.zero_le _, rfl, rfl, rfl, by simpa [mtexts] using HS⟩
  case round =>
    clear HS
    obtain ⟨k, q, hkl, hq, rfl, rfl, HS⟩ := hrel
    have HQ := hid hq
    by_cases hlt : k < ps.length
    case pos =>
      have hfl : k < (mtexts k q0 ++ ps.drop k).length := by rw [List.length_append, mtexts_length, List.length_drop]; omega
      have HST := mtexts_step (ps := ps) (K := q0) hlt
      rw [← hq] at HST
      replace HST := hid HST
      have HOK : Hid (Flat.ok (mtext q)) := hid (by have := mtext_size q; show (mtext q).size ≤ maxLen; unfold maxLen; omega)
      have hqb : q ≤ 4611686018427387903 := by omega
      have hq1 : 0 < q := by omega
      clear hq
      obtain ⟨b, off, cc, hv, -, -⟩ := ownA.addr HS (show Take _ (ownA (mtexts k q0 ++ ps.drop k) [.slice A1 _ _]) _ from tk) (by omega)
      simp only [Value.slice.injEq] at hv
      obtain ⟨rfl, -, rfl⟩ := hv
      go_wp2_with (first
            | (go_at_call 59; (with_reducible refine (markText_any q _ (by omega) (by omega)).mono ?_); rintro e w' ⟨rfl, hx⟩; replace HS := HS.grow hx; clear hx)
            | ((with_reducible (show wpList _ _ _ (Oper.mk none (Op.store _ (.tmp 16) _) _ _ _ _ :: _) _ _)); refine wpList_storeF_st (o := ⟨none, .store _ (.tmp 16) _, _, _, _, _⟩) rfl _ _ _ rfl rfl rfl HS tk sz_string rfl hfl (v := mtext q) HOK.out rfl rfl ?_ rfl; clear HS; intro w4_5 hz4_5 HS))
      rw [HST.out] at HS
      go_roundw
      case rel => exact ⟨k + 1, q + 1, hlt, by rw [HQ.out]; rfl, rfl, by go_num, HS⟩
      case measure => simp [intOf]; omega
    case neg =>
      obtain rfl : k = ps.length := by omega
      subst hq
      rw [List.drop_length, List.append_nil] at HS
      go_wp2_with (first
            | ((with_reducible (show wpList _ _ _ (Oper.mk none (Op.store _ (.tmp 16) _) _ _ _ _ :: _) _ _)); refine wpList_storeF_st (o := ⟨none, .store _ (.tmp 16) _, _, _, _, _⟩) rfl _ _ _ rfl rfl rfl HS tk sz_string rfl hfl (v := mtext q) HOK.out rfl rfl ?_ rfl; clear HS; intro w4_5 hz4_5 HS))
      go_ret
      exact ⟨rfl, HS⟩
set_option maxRecDepth 100000 in
set_option maxHeartbeats 4000000 in
theorem markMemory_st {w0 : World} {Js : List Asn} (v : Value) (ps : Pg) (q0 : Nat) (w : World) (HS : St w0 w (ownA ps [v] :: Js)) (h0 : 0 < q0) (h1 : q0 + ps.length ≤ 4611686018427387903) :
    Calls Tryz.prog 18 #[.agg #[v], .int .i64 q0] w (fun e w' => e = .returned (.int .i64 ((q0 + ps.length : Nat) : Int)) ∧ St w0 w' (ownA (mtexts ps.length q0) [v] :: Js)) := by
  go_enter Tryz.func18, Tryz.ntmps18
  go_wp2_with (first
        | (go_at_call 19; (with_reducible refine (markStringS_st _ ps q0 _ (HS.take tk) h0 h1).mono ?_); rintro e w' ⟨rfl, HS9⟩; clear HS; have HS := HS9; clear HS9)
        | ((with_reducible (show wpList _ _ _ (Oper.mk (some 2) (Op.box _ _) _ _ _ _ :: _) _ _)); refine wpList_box_st (o := ⟨some 2, .box _ _, _, _, _, _⟩) rfl _ _ rfl (v := .agg (List.toArray _)) rfl HS ?_; clear HS; intro w2 b2 hb2 HS; simp only [Value.cells] at HS)
        | ((with_reducible (show wpList _ _ _ (Oper.mk (some 2) (Op.box _ _) _ _ _ _ :: _) _ _)); refine wpList_box_st (o := ⟨some 2, .box _ _, _, _, _, _⟩) rfl _ _ rfl (v := .agg _) rfl HS ?_; clear HS; intro w2 b2 hb2 HS; simp only [Value.cells] at HS)
        | ((with_reducible (show wpList _ _ _ (Oper.mk (some 6) (Op.load _ _) _ _ _ _ :: _) _ _)); refine wpList_loadS_st (o := ⟨some 6, .load _ _, _, _, _, _⟩) rfl _ _ rfl rfl HS tk sc_Sstring rfx ?_))
  go_ret
  exact ⟨rfl, HS.arr (.cons .head (arr_drop _ _))⟩
set_option maxRecDepth 100000 in
set_option maxHeartbeats 4000000 in
theorem heldStringS_any (v : Value) (n q0 : Nat) (w : World) (k1 : Holds w (mtexts n q0) [v]) (h0 : 0 < q0) (h1 : q0 + n ≤ 4611686018427387903) :
    Calls Tryz.prog 20 #[v, .int .i64 q0] w fun e w' => e = .returned (.int .i64 ((q0 + n : Nat) : Int)) ∧ Ex w w' := by
  obtain ⟨AA, cap, rfl, z1, z2⟩ := k1.fl
  unfold maxLen at z2
  rw [mtexts_length] at *
  have HS := St.start w
  go_enter Tryz.func20, Tryz.ntmps20
  go_wp2
  go_loopw [1, 5] (fun kv i wr => ∃ k q : Nat, k ≤ n ∧ q = q0 + k ∧ kv = .int .i64 (q : Int) ∧ i = .int .i64 k ∧ St w wr []) (fun _ i _ => n - (intOf i).toNat)
  case atStart => exact ⟨0, q0, Nat.zero_le _, rfl, rfl, rfl, (HS.arr (by repeat (first | exact Arr.nil | (with_reducible exact take_all _) | (refine Arr.cons tk ?_) | (refine arr_skip ?_))))⟩
  case round =>
    clear HS
    obtain ⟨k, q, hkl, hq, rfl, rfl, HS⟩ := hrel
    have HQ := hid hq
    by_cases hlt : k < n
    case pos =>
      obtain ⟨b, off, rfl⟩ := k1.flA (by rw [mtexts_length]; omega)
      have hk9 := mtexts_get (n := n) (k := q0) hlt
      rw [← hq] at hk9
      have HK := hid hk9
      clear hk9
      have hqb : q ≤ 4611686018427387903 := by omega
      have hq1 : 0 < q := by omega
      clear hq
      go_wp2
      refine wp_region_plan_st HS (.early 0 (.early 1 (.early 2 (.early 3 (.forced 4 1 (.forced 5 1 (.forced 6 2 .done))))))) (by kernel_rfl) (by as_aux_lemma => kernel_rfl) ?_
      intro hne
      replace HS := HS.drew
      try go_simp
      repeat' (first
        | (with_reducible refine wpPlan_forced ?_)
        | ((with_reducible (first | (show wpPlan _ _ _ _ (.early 0 _) _ _) | (show wpPlan _ _ _ _ (.early 1 _) _ _) | (show wpPlan _ _ _ _ (.early 2 _) _ _))); (first | (refine wpPlan_skipE rfl rfl ?_; (try go_simp)) | (refine wpPlan_early rfl rfl ?_; intro K hK; (first | go_big_quiet_op); (first | go_big_quiet_on | (refine ⟨_, fun _ => rfl, ?_⟩; go_big_quiet_on)))))
        | ((with_reducible ((show wpPlan _ _ _ _ (.early 3 _) _ _))); (first | (refine wpPlan_skipE rfl rfl ?_; (try go_simp)) | (refine wpPlan_early rfl rfl ?_; intro K hK; (first | ((refine quiet_loadHF  _ _ rfl rfl (fun _ hs => k1.ex hs.ex) HK.out 1 0 (by first | rfl | (simp; done) | omega) rfl (by decide) sc_string flt ?_); (try go_simp)) | go_big_quiet_op); (first | go_big_quiet_on | (refine ⟨_, fun _ => rfl, ?_⟩; go_big_quiet_on)))))
        | ((with_reducible ((show wpOne _ _ _ _ 4 1 _ _ _))); (first | (refine wpOne_skip rfl rfl ?_; (try go_simp)) | (refine wpOne_1 rfl rfl ?_; intro K hK; go_simp; refine hK _ _ ?_ ?_; (focus (exact stw HS)); clear hK K)))
        | ((with_reducible ((show wpOne _ _ _ _ 5 1 _ _ _))); (first | (refine wpOne_skip rfl rfl ?_; (try go_simp)) | (refine wpOne_1 rfl rfl ?_; intro K hK; go_simp; (first | (go_at_call 59; (with_reducible refine (markText_any q _ (by omega) (by omega)).mono ?_); rintro e w' ⟨rfl, hx⟩; replace HS := HS.grow hx; clear hx)); (try go_simp); refine hK _ _ ?_ ?_; (focus (exact stw HS)); clear hK K)))
        | ((with_reducible ((show wpOne _ _ _ _ 6 2 _ _ _))); (first | (refine wpOne_skip rfl rfl ?_; (try go_simp)) | (refine wpOne_2 rfl rfl ?_; intro K hK; go_simp; refine hK _ _ ?_; clear hK K)))
        | (with_reducible refine wpPlan_done ?_))
      go_wp2
      go_roundw
      case rel => exact ⟨k + 1, q + 1, hlt, by rw [HQ.out]; rfl, rfl, by go_num, (HS.arr (by repeat (first | exact Arr.nil | (with_reducible exact take_all _) | (refine Arr.cons tk ?_) | (refine arr_skip ?_))))⟩
      case measure => simp [intOf]; omega
    case neg =>
      obtain rfl : k = n := by omega
      subst hq
      go_wp2
      go_ret
      exact ⟨rfl, HS.ex⟩
set_option maxRecDepth 100000 in
set_option maxHeartbeats 4000000 in
theorem toMapping_any (x1 : Int) (x2 : Int) (x3 : Int) (x4 : Bool) (w : World) :
    Calls Tryz.prog 48 #[.agg #[.int .i64 x1, .int .i64 x2, .int .i64 x3, .bool x4]] w fun e w' => e = .returned (.agg #[.int .i64 x1, .int .i64 x2, .int .i64 x3, .bool x4]) ∧ Ex w w' := by
  have HS := St.start w
  go_enter Tryz.func48, Tryz.ntmps48
  go_wp2_with (first
        | ((with_reducible (show wpList _ _ _ (Oper.mk (some 1) (Op.box _ _) _ _ _ _ :: _) _ _)); refine wpList_box_st (o := ⟨some 1, .box _ _, _, _, _, _⟩) rfl _ _ rfl (v := .agg (List.toArray _)) rfl HS ?_; clear HS; intro w1 b1 hb1 HS; simp only [Value.cells] at HS)
        | ((with_reducible (show wpList _ _ _ (Oper.mk (some 1) (Op.box _ _) _ _ _ _ :: _) _ _)); refine wpList_box_st (o := ⟨some 1, .box _ _, _, _, _, _⟩) rfl _ _ rfl (v := .agg _) rfl HS ?_; clear HS; intro w1 b1 hb1 HS; simp only [Value.cells] at HS)
        | ((with_reducible (show wpList _ _ _ (Oper.mk (some 2) (Op.alloc _) _ _ _ _ :: _) _ _)); refine wpList_alloc_st (o := ⟨some 2, .alloc _, _, _, _, _⟩) rfl _ rfl zc_impl_Mapping HS ?_; clear HS; intro w2 b2 hb2 HS)
        | ((with_reducible (show wpList _ _ _ (Oper.mk (some 3) (Op.alloc _) _ _ _ _ :: _) _ _)); refine wpList_alloc_st (o := ⟨some 3, .alloc _, _, _, _, _⟩) rfl _ rfl zc_impl_Mapping HS ?_; clear HS; intro w3 b3 hb3 HS)
        | ((with_reducible (show wpList _ _ _ (Oper.mk (some 5) (Op.load _ _) _ _ _ _ :: _) _ _)); refine wpList_loadS_st (o := ⟨some 5, .load _ _, _, _, _, _⟩) rfl _ _ rfl rfl HS tk sc_int rfx ?_)
        | ((with_reducible (show wpList _ _ _ (Oper.mk none (Op.store _ (.tmp 6) _) _ _ _ _ :: _) _ _)); refine wpList_store_st (o := ⟨none, .store _ (.tmp 6) _, _, _, _, _⟩) rfl _ _ _ rfl rfl (v := .int .i64 _) rfl HS tk sz_int vcs rfx rfx (by simp) ?_ rfl; clear HS; intro w2_3 hz2_3 HS; simp only [nicL, Value.cells, List.append_nil] at HS)
        | ((with_reducible (show wpList _ _ _ (Oper.mk (some 8) (Op.load _ _) _ _ _ _ :: _) _ _)); refine wpList_loadS_st (o := ⟨some 8, .load _ _, _, _, _, _⟩) rfl _ _ rfl rfl HS tk sc_int rfx ?_)
        | ((with_reducible (show wpList _ _ _ (Oper.mk none (Op.store _ (.tmp 9) _) _ _ _ _ :: _) _ _)); refine wpList_store_st (o := ⟨none, .store _ (.tmp 9) _, _, _, _, _⟩) rfl _ _ _ rfl rfl (v := .int .i64 _) rfl HS tk sz_int vcs rfx rfx (by simp) ?_ rfl; clear HS; intro w3_3 hz3_3 HS; simp only [nicL, Value.cells, List.append_nil] at HS)
        | ((with_reducible (show wpList _ _ _ (Oper.mk (some 11) (Op.load _ _) _ _ _ _ :: _) _ _)); refine wpList_loadS_st (o := ⟨some 11, .load _ _, _, _, _, _⟩) rfl _ _ rfl rfl HS tk sc_int rfx ?_)
        | ((with_reducible (show wpList _ _ _ (Oper.mk none (Op.store _ (.tmp 12) _) _ _ _ _ :: _) _ _)); refine wpList_store_st (o := ⟨none, .store _ (.tmp 12) _, _, _, _, _⟩) rfl _ _ _ rfl rfl (v := .int .i64 _) rfl HS tk sz_int vcs rfx rfx (by simp) ?_ rfl; clear HS; intro w4_3 hz4_3 HS; simp only [nicL, Value.cells, List.append_nil] at HS)
        | ((with_reducible (show wpList _ _ _ (Oper.mk (some 14) (Op.load _ _) _ _ _ _ :: _) _ _)); refine wpList_loadS_st (o := ⟨some 14, .load _ _, _, _, _, _⟩) rfl _ _ rfl rfl HS tk sc_bool rfx ?_)
        | ((with_reducible (show wpList _ _ _ (Oper.mk none (Op.store _ (.tmp 15) _) _ _ _ _ :: _) _ _)); refine wpList_store_st (o := ⟨none, .store _ (.tmp 15) _, _, _, _, _⟩) rfl _ _ _ rfl rfl (v := .bool _) rfl HS tk sz_bool vcs rfx rfx (by simp) ?_ rfl; clear HS; intro w5_3 hz5_3 HS; simp only [nicL, Value.cells, List.append_nil] at HS)
        | ((with_reducible (show wpList _ _ _ (Oper.mk (some 16) (Op.load _ _) _ _ _ _ :: _) _ _)); refine wpList_loadA_st (o := ⟨some 16, .load _ _, _, _, _, _⟩) rfl _ _ rfl rfl HS tk ag_impl_Mapping lit rfl ?_)
        | ((with_reducible (show wpList _ _ _ (Oper.mk none (Op.store _ (.tmp 2) _) _ _ _ _ :: _) _ _)); refine wpList_store_st (o := ⟨none, .store _ (.tmp 2) _, _, _, _, _⟩) rfl _ _ _ rfl rfl (v := .agg (List.toArray _)) rfl HS tk sz_impl_Mapping vcs rfx rfx (by simp) ?_ rfl; clear HS; intro w6_1 hz6_1 HS; simp only [nicL, Value.cells, List.append_nil] at HS)
        | ((with_reducible (show wpList _ _ _ (Oper.mk none (Op.store _ (.tmp 2) _) _ _ _ _ :: _) _ _)); refine wpList_store_st (o := ⟨none, .store _ (.tmp 2) _, _, _, _, _⟩) rfl _ _ _ rfl rfl (v := .agg _) rfl HS tk sz_impl_Mapping vcs rfx rfx (by simp) ?_ rfl; clear HS; intro w6_1 hz6_1 HS; simp only [nicL, Value.cells, List.append_nil] at HS))
  refine bodyPost_retc rfx rfx HS tk ag_impl_Mapping rfx rfx ?_
  exact ⟨rfl, HS.ex⟩
set_option maxRecDepth 100000 in
set_option maxHeartbeats 4000000 in
theorem eqMapping_same (x1 : Int) (x2 : Int) (x3 : Int) (x4 : Bool) (w : World) :
    Calls Tryz.prog 58 #[.agg #[.int .i64 x1, .int .i64 x2, .int .i64 x3, .bool x4], .agg #[.int .i64 x1, .int .i64 x2, .int .i64 x3, .bool x4]] w fun e w' => e = .returned (.bool true) ∧ Ex w w' := by
  have e0 : (x1 != x1) = false := by simp
  have e1 : (x2 != x2) = false := by simp
  have e2 : (x3 != x3) = false := by simp
  have e3 : (x4 != x4) = false := by simp
  have HS := St.start w
  go_enter Tryz.func58, Tryz.ntmps58
  go_wp2_with (first
        | ((with_reducible (show wpList _ _ _ (Oper.mk (some 2) (Op.box _ _) _ _ _ _ :: _) _ _)); refine wpList_box_st (o := ⟨some 2, .box _ _, _, _, _, _⟩) rfl _ _ rfl (v := .agg (List.toArray _)) rfl HS ?_; clear HS; intro w2 b2 hb2 HS; simp only [Value.cells] at HS)
        | ((with_reducible (show wpList _ _ _ (Oper.mk (some 2) (Op.box _ _) _ _ _ _ :: _) _ _)); refine wpList_box_st (o := ⟨some 2, .box _ _, _, _, _, _⟩) rfl _ _ rfl (v := .agg _) rfl HS ?_; clear HS; intro w2 b2 hb2 HS; simp only [Value.cells] at HS)
        | ((with_reducible (show wpList _ _ _ (Oper.mk (some 3) (Op.box _ _) _ _ _ _ :: _) _ _)); refine wpList_box_st (o := ⟨some 3, .box _ _, _, _, _, _⟩) rfl _ _ rfl (v := .agg (List.toArray _)) rfl HS ?_; clear HS; intro w3 b3 hb3 HS; simp only [Value.cells] at HS)
        | ((with_reducible (show wpList _ _ _ (Oper.mk (some 3) (Op.box _ _) _ _ _ _ :: _) _ _)); refine wpList_box_st (o := ⟨some 3, .box _ _, _, _, _, _⟩) rfl _ _ rfl (v := .agg _) rfl HS ?_; clear HS; intro w3 b3 hb3 HS; simp only [Value.cells] at HS)
        | ((with_reducible (show wpList _ _ _ (Oper.mk (some 6) (Op.load _ _) _ _ _ _ :: _) _ _)); refine wpList_loadS_st (o := ⟨some 6, .load _ _, _, _, _, _⟩) rfl _ _ rfl rfl HS tk sc_int rfx ?_)
        | ((with_reducible (show wpList _ _ _ (Oper.mk (some 8) (Op.load _ _) _ _ _ _ :: _) _ _)); refine wpList_loadS_st (o := ⟨some 8, .load _ _, _, _, _, _⟩) rfl _ _ rfl rfl HS tk sc_int rfx ?_)
        | ((with_reducible (show wpList _ _ _ (Oper.mk (some 11) (Op.load _ _) _ _ _ _ :: _) _ _)); refine wpList_loadS_st (o := ⟨some 11, .load _ _, _, _, _, _⟩) rfl _ _ rfl rfl HS tk sc_int rfx ?_)
        | ((with_reducible (show wpList _ _ _ (Oper.mk (some 13) (Op.load _ _) _ _ _ _ :: _) _ _)); refine wpList_loadS_st (o := ⟨some 13, .load _ _, _, _, _, _⟩) rfl _ _ rfl rfl HS tk sc_int rfx ?_)
        | ((with_reducible (show wpList _ _ _ (Oper.mk (some 16) (Op.load _ _) _ _ _ _ :: _) _ _)); refine wpList_loadS_st (o := ⟨some 16, .load _ _, _, _, _, _⟩) rfl _ _ rfl rfl HS tk sc_int rfx ?_)
        | ((with_reducible (show wpList _ _ _ (Oper.mk (some 18) (Op.load _ _) _ _ _ _ :: _) _ _)); refine wpList_loadS_st (o := ⟨some 18, .load _ _, _, _, _, _⟩) rfl _ _ rfl rfl HS tk sc_int rfx ?_)
        | ((with_reducible (show wpList _ _ _ (Oper.mk (some 21) (Op.load _ _) _ _ _ _ :: _) _ _)); refine wpList_loadS_st (o := ⟨some 21, .load _ _, _, _, _, _⟩) rfl _ _ rfl rfl HS tk sc_bool rfx ?_)
        | ((with_reducible (show wpList _ _ _ (Oper.mk (some 23) (Op.load _ _) _ _ _ _ :: _) _ _)); refine wpList_loadS_st (o := ⟨some 23, .load _ _, _, _, _, _⟩) rfl _ _ rfl rfl HS tk sc_bool rfx ?_))
  go_ret
  exact ⟨rfl, HS.ex⟩
set_option maxRecDepth 100000 in
set_option maxHeartbeats 4000000 in
theorem szMappingS_le (v : Value) (l : List Mp) (left : Int) (w : World) (k1 : Holds w l [v]) (hl : left ≤ 1048576) (hs : (l.length : Int) ≤ left) :
    Calls Tryz.prog 6 #[v, .int .i64 left] w fun e w' => e = .returned (.int .i64 (left - (l.length : Int))) ∧ Ex w w' := by
  obtain ⟨AA, cap, rfl, z1, z2⟩ := k1.fl
  unfold maxLen at z2
  have HS := St.start w
  go_enter Tryz.func6, Tryz.ntmps6
  go_wp2
  go_ret
  exact ⟨rfl, HS.ex⟩
set_option maxRecDepth 100000 in
set_option maxHeartbeats 4000000 in
theorem szMappingS_gt (v : Value) (l : List Mp) (left : Int) (w : World) (k1 : Holds w l [v]) (hl : left ≤ 1048576) (h0 : 0 ≤ left) (hs : left < (l.length : Int)) :
    Calls Tryz.prog 6 #[v, .int .i64 left] w fun e w' => e = .returned (.int .i64 (-1)) ∧ Ex w w' := by
  obtain ⟨AA, cap, rfl, z1, z2⟩ := k1.fl
  unfold maxLen at z2
  have HS := St.start w
  go_enter Tryz.func6, Tryz.ntmps6
  go_wp2
  go_ret
  exact ⟨rfl, HS.ex⟩
set_option maxRecDepth 100000 in
set_option maxHeartbeats 4000000 in
theorem toMappingS_any (v : Value) (l : List Mp) (w : World) (k1 : Holds w l [v]) (hl : l.length ≤ 1099511627776) :
    Calls Tryz.prog 9 #[v] w (RetSl w l) := by
  obtain ⟨AA, cap, rfl, z1, z2⟩ := k1.fl
  unfold maxLen at z2
  have zok : Flat.ok ((0, 0, 0, false) : Mp) := ⟨(show i64ok 0 from by unfold i64ok; omega), (show i64ok 0 from by unfold i64ok; omega), (show i64ok 0 from by unfold i64ok; omega), trivial⟩
  have HS := St.start w
  go_enter Tryz.func9, Tryz.ntmps9
  go_wp2_with (first
        | ((with_reducible (show wpList _ _ _ (Oper.mk (some 7) (Op.makeSlice _ _ _) _ _ _ _ :: _) _ _)); refine wpList_makeF_st (y0 := ((0, 0, 0, false) : Mp)) (o := ⟨some 7, .makeSlice _ _ _, _, _, _, _⟩) rfl _ _ _ rfl _ Tryz.underlying33 in_impl_Mapping (n := l.length) rfl rfl rfl rfx zok (by omega) mxl HS ?_; clear HS; intro w7 b7 hb7 HS)
        | ((with_reducible (show wpList _ _ _ (Oper.mk (some 19) (Op.load _ _) _ _ _ _ :: _) _ _)); refine wpList_loadH (o := ⟨some 19, .load _ _, _, _, _, _⟩) rfl _ _ rfl rfl HS (fun _ hs => k1.ex hs.ex) HK.out (by first | rfl | (simp; done) | omega) ag_laws_Mapping rfl flt ?_)
        | ((with_reducible (show wpList _ _ _ (Oper.mk none (Op.store _ (.tmp 21) _) _ _ _ _ :: _) _ _)); refine wpList_storeE_st (o := ⟨none, .store _ (.tmp 21) _, _, _, _, _⟩) rfl _ _ _ rfl rfl (v := .agg (List.toArray _)) rfl HS tk sz_impl_Mapping 4 0 rfl (by first | rfl | (simp; done) | omega) hfl vcs rfx rfx HKF.out (el := (xd, xv, xp, xw)) HOK.out rfx (by simp) ?_ rfl; clear HS; intro w5_8 hz5_8 HS))
  rw [← fillL_zero l ((0, 0, 0, false) : Mp)] at HS
  go_loopw [4] (fun i wr => ∃ k : Nat, k ≤ l.length ∧ i = .int .i64 k ∧ St w wr [ownA (fillL l ((0, 0, 0, false) : Mp) k) [.slice (some ⟨b7, 0, none⟩) l.length l.length]]) (fun i _ => l.length - (intOf i).toNat)
  case atStart => exact ⟨0, Nat.zero_le _, rfl, HS⟩
  case round =>
    clear HS
    obtain ⟨k, hkl, rfl, HS⟩ := hrel
    by_cases hlt : k < l.length
    case pos =>
      obtain ⟨b, off, rfl⟩ := k1.flA (by omega)
      have hfl : k < (fillL l ((0, 0, 0, false) : Mp) k).length := by rw [fillL_length _ _ hkl]; exact hlt
      have HST := hid (fillL_set l ((0, 0, 0, false) : Mp) hlt)
      have HKF := hid (fillL_get l ((0, 0, 0, false) : Mp) hlt)
      have HOK : Hid (Flat.ok l[k]) := hid (k1.flok (List.getElem_mem hlt))
      have HK := hid (List.getElem?_eq_getElem hlt)
      generalize l[k] = x at *
      obtain ⟨xd, xv, xp, xw⟩ := x
      go_wp2_with (first
            | (go_at_call 48; (with_reducible refine (toMapping_any xd xv xp xw _).mono ?_); rintro e w' ⟨rfl, hx⟩; replace HS := HS.grow hx; clear hx)
            | ((with_reducible (show wpList _ _ _ (Oper.mk (some 7) (Op.makeSlice _ _ _) _ _ _ _ :: _) _ _)); refine wpList_makeF_st (y0 := ((0, 0, 0, false) : Mp)) (o := ⟨some 7, .makeSlice _ _ _, _, _, _, _⟩) rfl _ _ _ rfl _ Tryz.underlying33 in_impl_Mapping (n := l.length) rfl rfl rfl rfx zok (by omega) mxl HS ?_; clear HS; intro w7 b7 hb7 HS)
            | ((with_reducible (show wpList _ _ _ (Oper.mk (some 19) (Op.load _ _) _ _ _ _ :: _) _ _)); refine wpList_loadH (o := ⟨some 19, .load _ _, _, _, _, _⟩) rfl _ _ rfl rfl HS (fun _ hs => k1.ex hs.ex) HK.out (by first | rfl | (simp; done) | omega) ag_laws_Mapping rfl flt ?_)
            | ((with_reducible (show wpList _ _ _ (Oper.mk none (Op.store _ (.tmp 21) _) _ _ _ _ :: _) _ _)); refine wpList_storeE_st (o := ⟨none, .store _ (.tmp 21) _, _, _, _, _⟩) rfl _ _ _ rfl rfl (v := .agg (List.toArray _)) rfl HS tk sz_impl_Mapping 4 0 rfl (by first | rfl | (simp; done) | omega) hfl vcs rfx rfx HKF.out (el := (xd, xv, xp, xw)) HOK.out rfx (by simp) ?_ rfl; clear HS; intro w5_8 hz5_8 HS))
      rw [HST.out] at HS
      go_roundw
      case rel => exact ⟨k + 1, hlt, by go_num, (HS.arr (by repeat (first | exact Arr.nil | (with_reducible exact take_all _) | (refine Arr.cons tk ?_) | (refine arr_skip ?_))))⟩
      case measure => simp [intOf]; omega
    case neg =>
      obtain rfl : k = l.length := by omega
      rw [fillL_all] at HS
      go_wp2_with (first
            | ((with_reducible (show wpList _ _ _ (Oper.mk (some 7) (Op.makeSlice _ _ _) _ _ _ _ :: _) _ _)); refine wpList_makeF_st (y0 := ((0, 0, 0, false) : Mp)) (o := ⟨some 7, .makeSlice _ _ _, _, _, _, _⟩) rfl _ _ _ rfl _ Tryz.underlying33 in_impl_Mapping (n := l.length) rfl rfl rfl rfx zok (by omega) mxl HS ?_; clear HS; intro w7 b7 hb7 HS)
            | ((with_reducible (show wpList _ _ _ (Oper.mk (some 19) (Op.load _ _) _ _ _ _ :: _) _ _)); refine wpList_loadH (o := ⟨some 19, .load _ _, _, _, _, _⟩) rfl _ _ rfl rfl HS (fun _ hs => k1.ex hs.ex) HK.out (by first | rfl | (simp; done) | omega) ag_laws_Mapping rfl flt ?_)
            | ((with_reducible (show wpList _ _ _ (Oper.mk none (Op.store _ (.tmp 21) _) _ _ _ _ :: _) _ _)); refine wpList_storeE_st (o := ⟨none, .store _ (.tmp 21) _, _, _, _, _⟩) rfl _ _ _ rfl rfl (v := .agg (List.toArray _)) rfl HS tk sz_impl_Mapping 4 0 rfl (by first | rfl | (simp; done) | omega) hfl vcs rfx rfx HKF.out (el := (xd, xv, xp, xw)) HOK.out rfx (by simp) ?_ rfl; clear HS; intro w5_8 hz5_8 HS))
      go_ret
      exact HS.ret tk
set_option maxRecDepth 100000 in
set_option maxHeartbeats 4000000 in
theorem eqMappingS_same (v1 v2 : Value) (l : List Mp) (w : World) (k1 : Holds w l [v1]) (k2 : Holds w l [v2]) :
    Calls Tryz.prog 15 #[v1, v2] w fun e w' => e = .returned (.bool true) ∧ Ex w w' := by
  obtain ⟨AA, cap, rfl, z1, z2⟩ := k1.fl
  unfold maxLen at z2
  obtain ⟨BB, cap2, rfl, y1, y2⟩ := k2.fl
  unfold maxLen at y2
  have HS := St.start w
  go_enter Tryz.func15, Tryz.ntmps15
  go_wp2
  go_loopw [5] (fun i wr => ∃ k : Nat, k ≤ l.length ∧ i = .int .i64 k ∧ St w wr []) (fun i _ => l.length - (intOf i).toNat)
  case atStart => exact ⟨0, Nat.zero_le _, rfl, (HS.arr (by repeat (first | exact Arr.nil | (with_reducible exact take_all _) | (refine Arr.cons tk ?_) | (refine arr_skip ?_))))⟩
  case round =>
    clear HS
    obtain ⟨k, hkl, rfl, HS⟩ := hrel
    by_cases hlt : k < l.length
    case pos =>
      obtain ⟨b, off, rfl⟩ := k1.flA (by omega)
      obtain ⟨b', off', rfl⟩ := k2.flA (by omega)
      have HK := hid (List.getElem?_eq_getElem hlt)
      generalize l[k] = x at *
      obtain ⟨xd, xv, xp, xw⟩ := x
      go_wp2
      refine wp_region_plan_st HS (.early 0 (.early 1 (.early 2 (.early 3 (.early 4 (.forced 5 1 (.forced 6 1 (.forced 7 1 (.forced 8 2 (.forced 9 2 .done)))))))))) (by kernel_rfl) (by as_aux_lemma => kernel_rfl) ?_
      intro hne
      replace HS := HS.drew
      try go_simp
      repeat' (first
        | (with_reducible refine wpPlan_forced ?_)
        | ((with_reducible (first | (show wpPlan _ _ _ _ (.early 0 _) _ _) | (show wpPlan _ _ _ _ (.early 1 _) _ _) | (show wpPlan _ _ _ _ (.early 2 _) _ _) | (show wpPlan _ _ _ _ (.early 4 _) _ _))); (first | (refine wpPlan_skipE rfl rfl ?_; (try go_simp)) | (refine wpPlan_early rfl rfl ?_; intro K hK; (first | go_big_quiet_op); (first | go_big_quiet_on | (refine ⟨_, fun _ => rfl, ?_⟩; go_big_quiet_on)))))
        | ((with_reducible ((show wpPlan _ _ _ _ (.early 3 _) _ _))); (first | (refine wpPlan_skipE rfl rfl ?_; (try go_simp)) | (refine wpPlan_early rfl rfl ?_; intro K hK; (first | ((refine quiet_loadH  _ _ rfl rfl (fun _ hs => k1.ex hs.ex) HK.out (by first | rfl | (simp; done) | omega) ag_impl_Mapping rfl flt ?_); (try go_simp)) | go_big_quiet_op); (first | go_big_quiet_on | (refine ⟨_, fun _ => rfl, ?_⟩; go_big_quiet_on)))))
        | ((with_reducible (first | (show wpOne _ _ _ _ 5 1 _ _ _) | (show wpOne _ _ _ _ 6 1 _ _ _))); (first | (refine wpOne_skip rfl rfl ?_; (try go_simp)) | (refine wpOne_1 rfl rfl ?_; intro K hK; go_simp; refine hK _ _ ?_ ?_; (focus (exact stw HS)); clear hK K)))
        | ((with_reducible ((show wpOne _ _ _ _ 7 1 _ _ _))); (first | (refine wpOne_skip rfl rfl ?_; (try go_simp)) | (refine wpOne_1 rfl rfl ?_; intro K hK; (first | (refine wp_loadH  _ _ rfl rfl HS (fun _ hs => k2.ex hs.ex) HK.out (by first | rfl | (simp; done) | omega) ag_impl_Mapping rfl flt ?_)); (try go_simp); refine hK _ _ ?_ ?_; (focus (exact stw HS)); clear hK K)))
        | ((with_reducible ((show wpOne _ _ _ _ 8 2 _ _ _))); (first | (refine wpOne_skip rfl rfl ?_; (try go_simp)) | (refine wpOne_2 rfl rfl ?_; intro K hK; go_simp; (first | (go_at_call 58; (with_reducible refine (eqMapping_same xd xv xp xw _).mono ?_); rintro e w' ⟨rfl, hx⟩; replace HS := HS.grow hx; clear hx)); (try go_simp); refine hK _ _ ?_; clear hK K)))
        | ((with_reducible ((show wpOne _ _ _ _ 9 2 _ _ _))); (first | (refine wpOne_skip rfl rfl ?_; (try go_simp)) | (refine wpOne_2 rfl rfl ?_; intro K hK; go_simp; refine hK _ _ ?_; clear hK K)))
        | (with_reducible refine wpPlan_done ?_))
      go_wp2
      go_roundw
      case rel => exact ⟨k + 1, hlt, by go_num, (HS.arr (by repeat (first | exact Arr.nil | (with_reducible exact take_all _) | (refine Arr.cons tk ?_) | (refine arr_skip ?_))))⟩
      case measure => simp [intOf]; omega
    case neg =>
      obtain rfl : k = l.length := by omega
      go_wp2
      go_ret
      exact ⟨rfl, HS.ex⟩
def markEl (q : Nat) : Mp := ((q : Int), (q : Int) + 1, (q : Int) + 2, ((q : Int) + 3) % 3 == 0)
def markMp (n q : Nat) : List Mp := (List.range n).map fun i => markEl (q + 4 * i)
theorem markMp_length (n q : Nat) : (markMp n q).length = n := by simp [markMp]
theorem markMp_step {l : List Mp} {q i : Nat} (h : i < l.length) : (markMp i q ++ l.drop i).set i (markEl (q + 4 * i)) = markMp (i + 1) q ++ l.drop (i + 1) := by
  rw [List.set_append_right _ _ (by rw [markMp_length]; exact Nat.le_refl _), markMp_length, Nat.sub_self, List.drop_eq_getElem_cons h, List.set_cons_zero]
  unfold markMp
  rw [List.range_succ, List.map_append, List.append_assoc]
  rfl
theorem markMp_at {l : List Mp} {q i : Nat} (h : i < l.length) : (markMp i q ++ l.drop i)[i]? = some l[i] := by
  rw [List.getElem?_append_right (by rw [markMp_length]; exact Nat.le_refl _), markMp_length, Nat.sub_self, List.drop_eq_getElem_cons h]; rfl
set_option maxRecDepth 100000 in
set_option maxHeartbeats 4000000 in
theorem markMappingS_st {w0 : World} {Js : List Asn} (v : Value) (l : List Mp) (q0 : Nat) (w : World) (HS : St w0 w (ownA l [v] :: Js)) (h1 : q0 + 4 * l.length ≤ 4611686018427386000) :
    Calls Tryz.prog 17 #[v, .int .i64 q0] w (fun e w' => e = .returned (.int .i64 ((q0 + 4 * l.length : Nat) : Int)) ∧ St w0 w' (ownA (markMp l.length q0) [v] :: Js)) := by
  obtain ⟨A1, c1, rfl⟩ := ownA.form HS .head
  have hokl : ∀ x ∈ l, Flat.ok x := fun x hx => (HS.holds .head).flok hx
  replace hokl := hid hokl
  go_enter Tryz.func17, Tryz.ntmps17
  go_wp2_with (first
        | ((with_reducible (show wpList _ _ _ (Oper.mk none (Op.store _ (.tmp 16) _) _ _ _ _ :: _) _ _)); refine wpList_storeE_st (o := ⟨none, .store _ (.tmp 16) _, _, _, _, _⟩) rfl _ _ _ rfl rfl (v := .int .i64 _) rfl HS tk sz_int 4 0 rfl (by first | rfl | (simp; done) | omega) hfl vcs rfx rfx HK.out (el := ((q : Int), xv, xp, xw)) (show i64ok ((q : Int)) ∧ i64ok (xv) ∧ i64ok (xp) ∧ True from by have := HO1.out; have := HO2.out; have := HO3.out; unfold i64ok at *; refine ⟨?_, ?_, ?_, trivial⟩ <;> omega) rfx (by simp) ?_ rfl; clear HS; intro w4_5 hz4_5 HS)
        | ((with_reducible (show wpList _ _ _ (Oper.mk none (Op.store _ (.tmp 23) _) _ _ _ _ :: _) _ _)); refine wpList_storeE_st (o := ⟨none, .store _ (.tmp 23) _, _, _, _, _⟩) rfl _ _ _ rfl rfl (v := .int .i64 _) rfl HS tk sz_int 4 1 rfl (by first | rfl | (simp; done) | omega) (by (try simp only [List.length_set]); exact hfl) vcs rfx rfx (List.getElem?_set_self (by (try simp only [List.length_set]); exact hfl)) (el := ((q : Int), (q : Int) + 1, xp, xw)) (show i64ok ((q : Int)) ∧ i64ok ((q : Int) + 1) ∧ i64ok (xp) ∧ True from by have := HO1.out; have := HO2.out; have := HO3.out; unfold i64ok at *; refine ⟨?_, ?_, ?_, trivial⟩ <;> omega) rfx (by simp) ?_ rfl; clear HS; intro w6_5 hz6_5 HS)
        | ((with_reducible (show wpList _ _ _ (Oper.mk none (Op.store _ (.tmp 30) _) _ _ _ _ :: _) _ _)); refine wpList_storeE_st (o := ⟨none, .store _ (.tmp 30) _, _, _, _, _⟩) rfl _ _ _ rfl rfl (v := .int .i64 _) rfl HS tk sz_int 4 2 rfl (by first | rfl | (simp; done) | omega) (by (try simp only [List.length_set]); exact hfl) vcs rfx rfx (List.getElem?_set_self (by (try simp only [List.length_set]); exact hfl)) (el := ((q : Int), (q : Int) + 1, (q : Int) + 2, xw)) (show i64ok ((q : Int)) ∧ i64ok ((q : Int) + 1) ∧ i64ok ((q : Int) + 2) ∧ True from by have := HO1.out; have := HO2.out; have := HO3.out; unfold i64ok at *; refine ⟨?_, ?_, ?_, trivial⟩ <;> omega) rfx (by simp) ?_ rfl; clear HS; intro w8_5 hz8_5 HS)
        | ((with_reducible (show wpList _ _ _ (Oper.mk none (Op.store _ (.tmp 39) _) _ _ _ _ :: _) _ _)); refine wpList_storeE_st (o := ⟨none, .store _ (.tmp 39) _, _, _, _, _⟩) rfl _ _ _ rfl rfl (v := .bool _) rfl HS tk sz_bool 4 3 rfl (by first | rfl | (simp; done) | omega) (by (try simp only [List.length_set]); exact hfl) vcs rfx rfx (List.getElem?_set_self (by (try simp only [List.length_set]); exact hfl)) (el := ((q : Int), (q : Int) + 1, (q : Int) + 2, ((q : Int) + 3) % 3 == 0)) (show i64ok ((q : Int)) ∧ i64ok ((q : Int) + 1) ∧ i64ok ((q : Int) + 2) ∧ True from by have := HO1.out; have := HO2.out; have := HO3.out; unfold i64ok at *; refine ⟨?_, ?_, ?_, trivial⟩ <;> omega) rfx (by simp) ?_ rfl; clear HS; intro w10_7 hz10_7 HS))
  go_loopw [1, 5] (fun kv i wr => ∃ k q : Nat, k ≤ l.length ∧ q = q0 + 4 * k ∧ kv = .int .i64 (q : Int) ∧ i = .int .i64 k ∧ St w0 wr (ownA (markMp k q0 ++ l.drop k) [.slice A1 l.length c1] :: Js)) (fun _ i _ => l.length - (intOf i).toNat)
  case atStart => exact ⟨0, q0, Nat.zero_le _, rfl, rfl, rfl, by simpa [markMp] using HS⟩
  case round =>
    clear HS
    obtain ⟨k, q, hkl, hq, rfl, rfl, HS⟩ := hrel
    have HQ := hid hq
    by_cases hlt : k < l.length
    case pos =>
      have hfl : k < (markMp k q0 ++ l.drop k).length := by rw [List.length_append, markMp_length, List.length_drop]; omega
      have HST := markMp_step (l := l) (q := q0) hlt
      have hk9 := markMp_at (l := l) (q := q0) hlt
      have hok := hokl.out _ (List.getElem_mem hlt)
      rw [← hq] at HST
      replace HST := hid HST
      have hqb : q ≤ 4611686018427387000 := by omega
      clear hq
      generalize l[k] = x at *
      obtain ⟨xd, xv, xp, xw⟩ := x
      have HK := hid hk9
      obtain ⟨o1, o2, o3, -⟩ : i64ok xd ∧ i64ok xv ∧ i64ok xp ∧ True := hok
      have HO1 := hid o1
      have HO2 := hid o2
      have HO3 := hid o3
      clear o1 o2 o3
      clear hk9
      obtain ⟨b, off, cc, hv, -, -⟩ := ownA.addr HS (show Take _ (ownA (markMp k q0 ++ l.drop k) [.slice A1 _ _]) _ from .head) (by omega)
      simp only [Value.slice.injEq] at hv
      obtain ⟨rfl, -, rfl⟩ := hv
      go_wp2_with (first
            | ((with_reducible (show wpList _ _ _ (Oper.mk none (Op.store _ (.tmp 16) _) _ _ _ _ :: _) _ _)); refine wpList_storeE_st (o := ⟨none, .store _ (.tmp 16) _, _, _, _, _⟩) rfl _ _ _ rfl rfl (v := .int .i64 _) rfl HS tk sz_int 4 0 rfl (by first | rfl | (simp; done) | omega) hfl vcs rfx rfx HK.out (el := ((q : Int), xv, xp, xw)) (show i64ok ((q : Int)) ∧ i64ok (xv) ∧ i64ok (xp) ∧ True from by have := HO1.out; have := HO2.out; have := HO3.out; unfold i64ok at *; refine ⟨?_, ?_, ?_, trivial⟩ <;> omega) rfx (by simp) ?_ rfl; clear HS; intro w4_5 hz4_5 HS)
            | ((with_reducible (show wpList _ _ _ (Oper.mk none (Op.store _ (.tmp 23) _) _ _ _ _ :: _) _ _)); refine wpList_storeE_st (o := ⟨none, .store _ (.tmp 23) _, _, _, _, _⟩) rfl _ _ _ rfl rfl (v := .int .i64 _) rfl HS tk sz_int 4 1 rfl (by first | rfl | (simp; done) | omega) (by (try simp only [List.length_set]); exact hfl) vcs rfx rfx (List.getElem?_set_self (by (try simp only [List.length_set]); exact hfl)) (el := ((q : Int), (q : Int) + 1, xp, xw)) (show i64ok ((q : Int)) ∧ i64ok ((q : Int) + 1) ∧ i64ok (xp) ∧ True from by have := HO1.out; have := HO2.out; have := HO3.out; unfold i64ok at *; refine ⟨?_, ?_, ?_, trivial⟩ <;> omega) rfx (by simp) ?_ rfl; clear HS; intro w6_5 hz6_5 HS)
            | ((with_reducible (show wpList _ _ _ (Oper.mk none (Op.store _ (.tmp 30) _) _ _ _ _ :: _) _ _)); refine wpList_storeE_st (o := ⟨none, .store _ (.tmp 30) _, _, _, _, _⟩) rfl _ _ _ rfl rfl (v := .int .i64 _) rfl HS tk sz_int 4 2 rfl (by first | rfl | (simp; done) | omega) (by (try simp only [List.length_set]); exact hfl) vcs rfx rfx (List.getElem?_set_self (by (try simp only [List.length_set]); exact hfl)) (el := ((q : Int), (q : Int) + 1, (q : Int) + 2, xw)) (show i64ok ((q : Int)) ∧ i64ok ((q : Int) + 1) ∧ i64ok ((q : Int) + 2) ∧ True from by have := HO1.out; have := HO2.out; have := HO3.out; unfold i64ok at *; refine ⟨?_, ?_, ?_, trivial⟩ <;> omega) rfx (by simp) ?_ rfl; clear HS; intro w8_5 hz8_5 HS)
            | ((with_reducible (show wpList _ _ _ (Oper.mk none (Op.store _ (.tmp 39) _) _ _ _ _ :: _) _ _)); refine wpList_storeE_st (o := ⟨none, .store _ (.tmp 39) _, _, _, _, _⟩) rfl _ _ _ rfl rfl (v := .bool _) rfl HS tk sz_bool 4 3 rfl (by first | rfl | (simp; done) | omega) (by (try simp only [List.length_set]); exact hfl) vcs rfx rfx (List.getElem?_set_self (by (try simp only [List.length_set]); exact hfl)) (el := ((q : Int), (q : Int) + 1, (q : Int) + 2, ((q : Int) + 3) % 3 == 0)) (show i64ok ((q : Int)) ∧ i64ok ((q : Int) + 1) ∧ i64ok ((q : Int) + 2) ∧ True from by have := HO1.out; have := HO2.out; have := HO3.out; unfold i64ok at *; refine ⟨?_, ?_, ?_, trivial⟩ <;> omega) rfx (by simp) ?_ rfl; clear HS; intro w10_7 hz10_7 HS))
      simp only [List.set_set] at HS
      go_roundw
      case rel => exact ⟨k + 1, q + 4, hlt, by rw [HQ.out]; omega, by first | rfl | (congr 1; omega), by go_num, by rw [← HST.out]; exact HS⟩
      case measure => simp [intOf]; omega
    case neg =>
      obtain rfl : k = l.length := by omega
      subst hq
      rw [List.drop_length, List.append_nil] at HS
      go_wp2_with (first
            | ((with_reducible (show wpList _ _ _ (Oper.mk none (Op.store _ (.tmp 16) _) _ _ _ _ :: _) _ _)); refine wpList_storeE_st (o := ⟨none, .store _ (.tmp 16) _, _, _, _, _⟩) rfl _ _ _ rfl rfl (v := .int .i64 _) rfl HS tk sz_int 4 0 rfl (by first | rfl | (simp; done) | omega) hfl vcs rfx rfx HK.out (el := ((q : Int), xv, xp, xw)) (show i64ok ((q : Int)) ∧ i64ok (xv) ∧ i64ok (xp) ∧ True from by have := HO1.out; have := HO2.out; have := HO3.out; unfold i64ok at *; refine ⟨?_, ?_, ?_, trivial⟩ <;> omega) rfx (by simp) ?_ rfl; clear HS; intro w4_5 hz4_5 HS)
            | ((with_reducible (show wpList _ _ _ (Oper.mk none (Op.store _ (.tmp 23) _) _ _ _ _ :: _) _ _)); refine wpList_storeE_st (o := ⟨none, .store _ (.tmp 23) _, _, _, _, _⟩) rfl _ _ _ rfl rfl (v := .int .i64 _) rfl HS tk sz_int 4 1 rfl (by first | rfl | (simp; done) | omega) (by (try simp only [List.length_set]); exact hfl) vcs rfx rfx (List.getElem?_set_self (by (try simp only [List.length_set]); exact hfl)) (el := ((q : Int), (q : Int) + 1, xp, xw)) (show i64ok ((q : Int)) ∧ i64ok ((q : Int) + 1) ∧ i64ok (xp) ∧ True from by have := HO1.out; have := HO2.out; have := HO3.out; unfold i64ok at *; refine ⟨?_, ?_, ?_, trivial⟩ <;> omega) rfx (by simp) ?_ rfl; clear HS; intro w6_5 hz6_5 HS)
            | ((with_reducible (show wpList _ _ _ (Oper.mk none (Op.store _ (.tmp 30) _) _ _ _ _ :: _) _ _)); refine wpList_storeE_st (o := ⟨none, .store _ (.tmp 30) _, _, _, _, _⟩) rfl _ _ _ rfl rfl (v := .int .i64 _) rfl HS tk sz_int 4 2 rfl (by first | rfl | (simp; done) | omega) (by (try simp only [List.length_set]); exact hfl) vcs rfx rfx (List.getElem?_set_self (by (try simp only [List.length_set]); exact hfl)) (el := ((q : Int), (q : Int) + 1, (q : Int) + 2, xw)) (show i64ok ((q : Int)) ∧ i64ok ((q : Int) + 1) ∧ i64ok ((q : Int) + 2) ∧ True from by have := HO1.out; have := HO2.out; have := HO3.out; unfold i64ok at *; refine ⟨?_, ?_, ?_, trivial⟩ <;> omega) rfx (by simp) ?_ rfl; clear HS; intro w8_5 hz8_5 HS)
            | ((with_reducible (show wpList _ _ _ (Oper.mk none (Op.store _ (.tmp 39) _) _ _ _ _ :: _) _ _)); refine wpList_storeE_st (o := ⟨none, .store _ (.tmp 39) _, _, _, _, _⟩) rfl _ _ _ rfl rfl (v := .bool _) rfl HS tk sz_bool 4 3 rfl (by first | rfl | (simp; done) | omega) (by (try simp only [List.length_set]); exact hfl) vcs rfx rfx (List.getElem?_set_self (by (try simp only [List.length_set]); exact hfl)) (el := ((q : Int), (q : Int) + 1, (q : Int) + 2, ((q : Int) + 3) % 3 == 0)) (show i64ok ((q : Int)) ∧ i64ok ((q : Int) + 1) ∧ i64ok ((q : Int) + 2) ∧ True from by have := HO1.out; have := HO2.out; have := HO3.out; unfold i64ok at *; refine ⟨?_, ?_, ?_, trivial⟩ <;> omega) rfx (by simp) ?_ rfl; clear HS; intro w10_7 hz10_7 HS))
      go_ret
      exact ⟨rfl, HS⟩
end Go.Proofs.YtgbjkojgjhcabaaGreat
end
section
namespace Go.Proofs.YtgbjkojgjhcabaaGreat
open Go Go.RowKit Go.Vc
set_option linter.unusedVariables false
set_option linter.unusedSimpArgs false
set_option linter.unnecessarySimpa false
set_option maxHeartbeats 4000000 in
theorem c_laws_toRing {x_Base x_Size x_Head x_Tail : Int} : Con0 Tryz.prog 11 [.agg [V x_Base, V x_Size, V x_Head, V x_Tail]] (.agg [V x_Base, V x_Size, V x_Head, V x_Tail]) [] := by
  refine con_i Tryz.func11 Tryz.ntmps11 (t := [(0, .agg [V x_Base, V x_Size, V x_Head, V x_Tail])]) rfl ?_
  refine vc_sr ?_
  iterate 2 refine vo ?_
  refine vnt ?_
  refine vc_sr ?_
  refine vo ?_
  refine vnt ?_
  refine vc_sr ?_
  iterate 4 refine vo ?_
  refine vnt ?_
  refine vc_sr ?_
  iterate 4 refine vo ?_
  refine vnt ?_
  refine vc_sr ?_
  iterate 4 refine vo ?_
  refine vnt ?_
  refine vc_sr ?_
  iterate 4 refine vo ?_
  refine vnt ?_
  refine vc_sr ?_
  iterate 2 refine vo ?_
  refine vnt ?_
  refine vc_ret ?_
  refine fin_i [] rfl (fz ?_) (fz ?_) <;> first | trivial | rfl
set_option maxHeartbeats 4000000 in
theorem c_laws_eqRing {x_Base x_Size x_Head x_Tail : Int} : Con0 Tryz.prog 13 [.agg [V x_Base, V x_Size, V x_Head, V x_Tail], .agg [V x_Base, V x_Size, V x_Head, V x_Tail]] (B true) [] := by
  refine con_i Tryz.func13 Tryz.ntmps13 (t := [(0, .agg [V x_Base, V x_Size, V x_Head, V x_Tail]), (1, .agg [V x_Base, V x_Size, V x_Head, V x_Tail])]) rfl ?_
  refine vc_sr ?_
  iterate 3 refine vo ?_
  refine vnt ?_
  refine vc_seq' ?_
  refine vc_sr ?_
  iterate 5 refine vo ?_
  refine vnt ?_
  refine vc_if (fun g1 => ?_) (fun g1 => ?_)
  · first | contradiction | omega | (simp at g1; done)
  · refine vc_skip ?_
    refine thn ?_
    refine vc_seq' ?_
    refine vc_sr ?_
    iterate 5 refine vo ?_
    refine vnt ?_
    refine vc_if (fun g2 => ?_) (fun g2 => ?_)
    · first | contradiction | omega | (simp at g2; done)
    · refine vc_skip ?_
      refine thn ?_
      refine vc_seq' ?_
      refine vc_sr ?_
      iterate 5 refine vo ?_
      refine vnt ?_
      refine vc_if (fun g3 => ?_) (fun g3 => ?_)
      · first | contradiction | omega | (simp at g3; done)
      · refine vc_skip ?_
        refine thn ?_
        refine vc_seq' ?_
        refine vc_sr ?_
        iterate 5 refine vo ?_
        refine vnt ?_
        refine vc_if (fun g4 => ?_) (fun g4 => ?_)
        · first | contradiction | omega | (simp at g4; done)
        · refine vc_skip ?_
          refine thn ?_
          refine vc_sr ?_
          refine vo ?_
          refine vnt ?_
          refine vc_ret ?_
          refine fin_i [] rfl (fz ?_) (fz ?_) <;> first | trivial | rfl
section
variable {P : Program} {f : FuncId} {args : List AV} {vs : List Value} {w : World}
theorem ab_agg (cs : List Value) (h : cs.all (·.oneCell') = true) {w : World} : AB w (.agg (cs.map .v)) (.agg cs.toArray) := ⟨cs, rfl, F2.plain h⟩
theorem rb_sl {α : Type} [Rep α] [Flat α] {w : World} {xs : List α} {v : Value} {E : α → List Value} (hE : ∀ x, E x = Flat.cells x) (h : Holds w xs [v]) : RB w (.sl (Rep.size α) (xs.map E)) v := by
  obtain ⟨a, cap, e, h1, h2, h3, h4⟩ := h.flat
  obtain rfl : v = .slice a xs.length cap := by simpa using e
  refine ⟨a, cap, by rw [List.length_map], by rwa [List.length_map], h2, fun e he => ?_, fun hne => ?_⟩
  · obtain ⟨x, _, rfl⟩ := List.mem_map.1 he
    rw [hE]; exact ⟨Flat.len x, List.all_eq_true.2 (Flat.one x)⟩
  · have hl : 0 < xs.length := by
      rcases xs with _ | ⟨x, xs⟩
      · exact (hne rfl).elim
      · exact Nat.succ_pos _
    obtain ⟨b, off, ha, _⟩ := h3 0 hl
    refine ⟨b, off, ha, fun i e he j hj => ?_⟩
    rw [List.getElem?_map] at he
    obtain ⟨x, hx, rfl⟩ := Option.map_eq_some_iff.1 he
    obtain ⟨hi, rfl⟩ := List.getElem?_eq_some_iff.1 hx
    obtain ⟨b', off', ha', hc⟩ := h3 i hi
    rw [ha] at ha'
    simp only [Option.some.injEq, Addr.mk.injEq, and_true] at ha'
    obtain ⟨rfl, rfl⟩ := ha'
    rw [hE]; exact hc j hj
theorem ab_mem {ps : Pg} {v : Value} (h : Holds w ps [v]) : AB w (.agg [.sl 1 (ps.map strE)]) (.agg #[v]) := ⟨[v], rfl, .cons (R.of_rb (rb_sl (fun _ => rfl) h)) .nil⟩
theorem ab_mps {l : List Mp} {v : Value} (h : Holds w l [v]) : AB w (.one (.sl 4 (l.map mpE))) v := R.of_rb (w0 := w) (D := fun _ => False) (ρ := fun _ => undef) (rb_sl (fun _ => rfl) h)
theorem shP_v (b : Nat) : ∀ cs : List Value, ((cs.map PV.v).map (shP b)) = cs.map PV.v
  | [] => rfl
  | _ :: cs => by simp only [List.map_cons, shP_v b cs]; rfl
theorem old_one {x : Value} (hc : Con0 P f args (.one (.v x)) []) (ha : F2 (AB w) args vs) : Calls P f vs.toArray w fun e w' => e = .returned x ∧ Ex w w' := by
  refine (hc.2 w vs ha 0).mono fun e w' h => ?_
  obtain ⟨u, ρ, rfl, h1, _, _, _, As, h2, h3⟩ := h
  obtain ⟨rfl, _⟩ : u = x ∧ _ := h1
  exact ⟨rfl, h3.ex⟩
theorem old_agg {cs : List Value} (hc : Con0 P f args (.agg (cs.map .v)) []) (ha : F2 (AB w) args vs) : Calls P f vs.toArray w fun e w' => e = .returned (.agg cs.toArray) ∧ Ex w w' := by
  refine (hc.2 w vs ha 0).mono fun e w' h => ?_
  obtain ⟨u, ρ, rfl, h1, _, _, _, As, h2, h3⟩ := h
  obtain ⟨us, rfl, h1⟩ : ∃ us : List Value, u = .agg us.toArray ∧ F2 _ ((cs.map PV.v).map (shP 0)) us := h1
  rw [shP_v] at h1
  obtain ⟨rfl, _⟩ := F2.map_v h1
  exact ⟨rfl, h3.ex⟩
theorem pg_flat (ps : Pg) : (ps.map strE).flatten = ps.flatMap Flat.cells := by rw [List.flatMap_def]; rfl
end
theorem toRing_w (x_Base : Int) (x_Size : Int) (x_Head : Int) (x_Tail : Int) (w : World) : Calls Tryz.prog 11 #[.agg #[.int .i64 x_Base, .int .i64 x_Size, .int .i64 x_Head, .int .i64 x_Tail]] w fun e w' => e = .returned (.agg #[.int .i64 x_Base, .int .i64 x_Size, .int .i64 x_Head, .int .i64 x_Tail]) ∧ Ex w w' :=
  old_agg (cs := [.int .i64 x_Base, .int .i64 x_Size, .int .i64 x_Head, .int .i64 x_Tail]) c_laws_toRing (.cons (ab_agg [.int .i64 x_Base, .int .i64 x_Size, .int .i64 x_Head, .int .i64 x_Tail] rfl) .nil)
theorem eqRing_w (x_Base : Int) (x_Size : Int) (x_Head : Int) (x_Tail : Int) (w : World) : Calls Tryz.prog 13 #[.agg #[.int .i64 x_Base, .int .i64 x_Size, .int .i64 x_Head, .int .i64 x_Tail], .agg #[.int .i64 x_Base, .int .i64 x_Size, .int .i64 x_Head, .int .i64 x_Tail]] w fun e w' => e = .returned (.bool true) ∧ Ex w w' :=
  old_one c_laws_eqRing (.cons (ab_agg [.int .i64 x_Base, .int .i64 x_Size, .int .i64 x_Head, .int .i64 x_Tail] rfl) (.cons (ab_agg [.int .i64 x_Base, .int .i64 x_Size, .int .i64 x_Head, .int .i64 x_Tail] rfl) .nil))
section
open Go.Vc
variable {P : Program} {f : FuncId} {args : List AV} {vs : List Value} {w : World}
theorem F2.ones {w0 : World} {D : Nat → Prop} {ρ : Nat → Value} : ∀ {xs us : List Value}, F2 (AR1 w0 D ρ) ((xs.map fun x => AV.one (.v x)).map (shA1 0)) us → us = xs
  | [], _, .nil => rfl
  | x :: xs, _, .cons h k => by
    obtain ⟨rfl, _⟩ : _ = x ∧ _ := h
    rw [F2.ones k]
theorem old_tx {ps : Pg} {cs xs : List Value} {E : TypeId} (hc : Con0 P f args (.tup (.agg (cs.map .v) :: .one (.hs 0) :: xs.map fun x => .one (.v x))) [(0, .arr E 1 (ps.map strE))]) (ha : F2 (AB w) args vs) (hok : ∀ p ∈ ps, p.size ≤ maxLen) :
    Calls P f vs.toArray w fun e w' => ∃ a c, e = .returned (.tuple (.agg cs.toArray :: .slice a ps.length c :: xs).toArray) ∧ Owns w.heap.size w' ps [.slice a ps.length c] ∧ Ex w w' := by
  refine (hc.2 w vs ha 0).mono fun e w' h => ?_
  obtain ⟨u, ρ, rfl, h1, _, _, _, As, h2, h3⟩ := h
  obtain ⟨us, rfl, h1⟩ : ∃ us : List Value, u = .tuple us.toArray ∧ F2 (AR1 w _ ρ) (.agg ((cs.map PV.v).map (shP 0)) :: .one (.hs (0 + 0)) :: (xs.map fun x => AV.one (.v x)).map (shA1 0)) us := h1
  cases h1 with
  | cons g1 g2 =>
  cases g2 with
  | cons g2 g3 =>
  obtain rfl := F2.ones g3
  obtain ⟨us2, rfl, k2⟩ := g1
  rw [shP_v] at k2
  obtain ⟨rfl, _⟩ := F2.map_v k2
  obtain ⟨_, rfl, _⟩ := g2
  cases h2 with
  | cons q1 q2 =>
  cases q2
  obtain ⟨_, rfl⟩ := q1
  rw [pg_flat] at h3
  have h4 := h3.shut (α := ByteArray) .head rfl hok
  have ho := h4.owns .head
  obtain ⟨a, c, hv, _⟩ := ho.holds.flat
  simp only [List.cons.injEq, and_true] at hv
  rw [hv] at ho ⊢
  exact ⟨a, c, rfl, ho, h3.ex⟩
end
end Go.Proofs.YtgbjkojgjhcabaaGreat
end
section
namespace Go
open Go.RowKit
set_option linter.unusedVariables false
set_option linter.unusedSimpArgs false
def empA : Asn where
  P _ F := ∀ b, ¬ F b
  stable h _ := h
  lt h b hb := (h b hb).elim
def bigA : List Asn → Asn
  | [] => empA
  | A :: l => sepA A (bigA l)
theorem take_mid (A : Asn) (t : List Asn) : ∀ s : List Asn, Take (s ++ A :: t) A (s ++ t)
  | [] => .head
  | B :: s => .tail (take_mid A t s)
theorem arr_perm : ∀ {m l : List Asn}, l.Perm m → Arr l m
  | [], _, _ => .nil
  | A :: m, l, h => by
    obtain ⟨s, t, rfl⟩ := List.append_of_mem (h.symm.subset (List.mem_cons_self ..))
    exact .cons (take_mid A t s) (arr_perm ((List.perm_middle.symm.trans h).cons_inv))
section
variable {w0 w w' : World} {Is Js Ks : List Asn} {A B : Asn}
theorem St.unfuse (h : St w0 w (sepA A B :: Is)) : St w0 w (A :: B :: Is) := by
  obtain ⟨h1, F, ⟨F1, F2, ⟨G1, G2, a1, a2, a3, a4⟩, b2, b3, b4⟩, h6⟩ := h
  refine ⟨h1, F, ⟨G1, fun b => G2 b ∨ F2 b, a1, ⟨G2, F2, a2, b2, fun b hb hg => b3 b ((a4 b).2 (.inr hb)) hg, fun _ => Iff.rfl⟩, fun b hb hg => ?_, fun b => ?_⟩, h6⟩
  · rcases hg with hg | hg
    · exact a3 b hb hg
    · exact b3 b ((a4 b).2 (.inl hb)) hg
  · rw [b4, a4]
    constructor
    · rintro ((h | h) | h)
      · exact .inl h
      · exact .inr (.inl h)
      · exact .inr (.inr h)
    · rintro (h | h | h)
      · exact .inl (.inl h)
      · exact .inl (.inr h)
      · exact .inr h
theorem St.swap2 (h : St w0 w (A :: B :: Is)) : St w0 w (B :: A :: Is) := h.take2 (.tail .head) .head
theorem St.big : ∀ {l : List Asn} {Is : List Asn}, St w0 w (l ++ Is) → St w0 w (bigA l :: Is)
  | [], Is, h => h.add (Ex.refl w) (A := empA) (F := fun _ => False) (fun _ h => h) fun _ h => h.elim
  | A :: l, Is, h => by
    have h1 : St w0 w (l ++ (A :: Is)) := h.arr (arr_perm (List.perm_middle (a := A) (l₁ := l) (l₂ := Is)).symm)
    exact (St.big h1).swap2.fuse
theorem St.unbig : ∀ {l : List Asn} {Is : List Asn}, St w0 w (bigA l :: Is) → St w0 w (l ++ Is)
  | [], Is, h => h.arr (arr_drop _ _)
  | A :: l, Is, h => by
    have h1 := (St.unfuse h).swap2
    have h2 : St w0 w (l ++ (A :: Is)) := St.unbig h1
    exact h2.arr (arr_perm (List.perm_middle (a := A) (l₁ := l) (l₂ := Is)))
end
inductive PlanF where
  | done
  | land (i : Nat) (p : PlanF)
  | early (i : Nat) (p : PlanF)
  | pure (i : Nat) (p : PlanF)
  | forced (i b : Nat) (p : PlanF)
  | fork (i b : Nat) (p : PlanF) (j c : Nat) (q : PlanF)
def PlanF.len : PlanF → Nat
  | .done => 0
  | .land _ p => p.len
  | .early _ p => p.len + 1
  | .pure _ p => p.len + 1
  | .forced _ _ p => p.len + 1
  | .fork _ _ p _ _ q => if p.len == q.len then p.len + 1 else 0
def PlanF.fits : PlanF → Bool
  | .done => true
  | .land _ p => p.fits
  | .early _ p => p.fits
  | .pure _ p => p.fits
  | .forced _ _ p => p.fits
  | .fork _ _ p _ _ q => p.len == q.len && p.fits && q.fits
section
variable {P : Program} {ops : Array Oper} {Q : Exit → Act → World → Prop} {w0 : World} {L0 : List Asn}
def SS (w0 : World) (L0 : List Asn) : World → Prop := fun w' => ∃ s : StW w0 L0, w' = s.1
def OneF (P : Program) (ops : Array Oper) (w0 : World) (L0 : List Asn) (Q : Exit → Act → World → Prop) (i b : Nat) (R : Act → List Asn → Prop) (a : Act) (L : List Asn) : Prop := match ops[i]? with
  | none => False
  | some o => if Region.wanted o (yielded ops a.tmps) then
      ∀ (w : World) (F : Asn), St w0 w (F :: L) → o.wp P a w (fun a' w' => (b = 1 → SS w0 L0 w') ∧ ∃ L', St w0 w' (F :: L') ∧ R a' L') Q
    else R (a.put o.dst undef) L
def wpF (P : Program) (ops : Array Oper) (w0 : World) (L0 : List Asn) (Q : Exit → Act → World → Prop) : PlanF → Act → List Asn → Prop
  | .done, a, L => ∀ w, St w0 w L → Q .normal a w
  | .land i p, a, L => match ops[i]? with
    | none => False
    | some o => ∀ T cs, o.op = .alloc T → zeroCells' P T = some cs → ∀ b, wpF P ops w0 L0 Q p (a.put o.dst (.pointer (some ⟨b, 0, none⟩))) (rowA b cs T :: L)
  | .early i p, a, L => match ops[i]? with
    | none => False
    | some o => if Region.wanted o (yielded ops a.tmps) then o.quiet P a (SS w0 L0) (fun a' => wpF P ops w0 L0 Q p a' L) else wpF P ops w0 L0 Q p (a.put o.dst undef) L
  | .pure i p, a, L => match ops[i]? with
    | none => False
    | some o => if Region.wanted o (yielded ops a.tmps) then o.quiet P a (fun _ => True) (fun a' => wpF P ops w0 L0 Q p a' L) else wpF P ops w0 L0 Q p (a.put o.dst undef) L
  | .forced i b p, a, L => OneF P ops w0 L0 Q i b (wpF P ops w0 L0 Q p) a L
  | .fork i b p j c q, a, L => OneF P ops w0 L0 Q i b (wpF P ops w0 L0 Q p) a L ∧ OneF P ops w0 L0 Q j c (wpF P ops w0 L0 Q q) a L
def dstF (ops : Array Oper) (i : Nat) : Option Tmp := (ops[i]?).bind (·.dst)
def typF (ops : Array Oper) (i : Nat) : TypeId := match (ops[i]?).map (·.op) with
  | some (Op.alloc T) => T
  | _ => 0
def rowF (P : Program) (ops : Array Oper) (i b : Nat) : Asn := rowA b ((zeroCells' P (typF ops i)).getD []) (typF ops i)
def putD (ops : Array Oper) : List Nat → List (Option Nat) → Act → Act
  | i :: fs, some b :: D, a => putD ops fs D (a.put (dstF ops i) (.pointer (some ⟨b, 0, none⟩)))
  | _ :: fs, none :: D, a => putD ops fs D a
  | _, _, a => a
def listD : List Nat → List (Option Nat) → Array Bool → Array Bool
  | i :: fs, some _ :: D, l => listD fs D (l.setIfInBounds i true)
  | _ :: fs, none :: D, l => listD fs D l
  | _, _, l => l
def rowsD (P : Program) (ops : Array Oper) : List Nat → List (Option Nat) → List Asn
  | i :: fs, some b :: D => rowF P ops i b :: rowsD P ops fs D
  | _ :: fs, none :: D => rowsD P ops fs D
  | _, _ => []
def open_ (D : List (Option Nat)) : Nat := (D.filter (·.isNone)).length
def listAll (fs : List Nat) (l : Array Bool) : Array Bool := fs.foldl (fun l i => l.setIfInBounds i true) l
def floatB (ops : Array Oper) (i : Nat) : Bool := match ops[i]? with
  | none => false
  | some o => (match o.op with | .alloc _ => true | _ => false) && o.guard.isNone && o.after.all (fun e => !Region.binds .any e)
def zeroB (P : Program) (ops : Array Oper) (i : Nat) : Bool := match ops[i]? with
  | none => false
  | some o => match o.op with
    | .alloc T => (zeroCells' P T).isSome
    | _ => false
def awayB (ops : Array Oper) (fs : List Nat) (i : Nat) : Bool := fs.all fun f => match ops[f]?, ops[i]? with
  | some x, some y => x.apart ops y
  | _, _ => false
def planFF (ops : Array Oper) (es : List Nat) : Bool → PlanF → List Nat → Array Bool → Bool
  | _, .done, fs, listed => fs.isEmpty && (Region.ready .any ops listed).isEmpty
  | s, .land i p, fs, listed => match fs with
    | [] => false
    | f :: fs => f == i && Region.ready .any ops (listAll fs listed) == [i] && planFF ops es s p fs (listed.setIfInBounds i true)
  | s, .early i p, fs, listed => s && es.contains i && (Region.ready .any ops listed).contains i && Region.free .any ops listed i && ((ops[i]?).map (·.op.plainB)).getD false && awayB ops fs i && !fs.contains i && planFF ops es s p fs (listed.setIfInBounds i true)
  | s, .pure i p, fs, listed => !needsT ops es i && (Region.ready .any ops listed).contains i && Region.free .any ops listed i && ((ops[i]?).map (·.op.plainB)).getD false && awayB ops fs i && !fs.contains i && planFF ops es s p fs (listed.setIfInBounds i true)
  | s, .forced i b p, fs, listed => (fs.isEmpty || b == 1) && okOne ops es s i b && (Region.ready .any ops listed).contains i && Region.ready .any ops (listAll fs listed) == [i] && awayB ops fs i && !fs.contains i && planFF ops es (after1 s b) p fs (listed.setIfInBounds i true)
  | s, .fork i b p j c q, fs, listed => (fs.isEmpty || (b == 1 && c == 1)) && okOne ops es s i b && okOne ops es s j c && (Region.ready .any ops listed).contains i && (Region.ready .any ops listed).contains j && Region.ready .any ops (listAll fs listed) == [i, j] && awayB ops fs i && !fs.contains i && awayB ops fs j && !fs.contains j && planFF ops es (after1 s b) p fs (listed.setIfInBounds i true) && planFF ops es (after1 s c) q fs (listed.setIfInBounds j true)
def PlanF.earlies : PlanF → List Nat
  | .done => []
  | .land _ p => p.earlies
  | .early i p => i :: p.earlies
  | .pure _ p => p.earlies
  | .forced _ _ p => p.earlies
  | .fork _ _ p _ _ q => p.earlies ++ q.earlies
def floatsB (ops : Array Oper) : List Nat → Bool
  | [] => true
  | i :: fs => floatB ops i && awayB ops fs i && !fs.contains i && floatsB ops fs
def planFB (P : Program) (ops : Array Oper) (p : PlanF) (fs : List Nat) : Bool := Region.noSelect ops && p.fits && p.len + fs.length == ops.size && floatsB ops fs && fs.all (zeroB P ops) && planFF ops p.earlies true p fs (Array.replicate ops.size false)
theorem wp_put1 {o : Oper} {a : Act} {w : World} {K : Act → World → Prop} (hs : ∀ cs b, o.op ≠ .select cs b) (hQ : ∀ c a w, ¬ Q (.panic c) a w) (d : Option Tmp) (v : Value) (h1 : ∀ t, d = some t → t ∉ o.looksAt ops) (h2 : ∀ t, d = some t → o.dst ≠ some t)
    (h : o.wp P a w K Q) : o.wp P (a.put d v) w (fun a' w' => ∃ a0, a' = a0.put d v ∧ K a0 w') Q := by
  unfold Oper.wp at *
  rw [execOp_put o hs a d v h1]
  generalize (execOp a.eval o).run P w = r at *
  cases r with
  | ok n w' =>
    cases n <;> simp only [Oper.upon] at h ⊢
    case value u => exact ⟨_, Act.put_comm a v u h2, h⟩
    case skip => exact ⟨_, Act.put_comm a v undef h2, h⟩
    case defer e =>
      refine ⟨_, ?_, h⟩
      rw [Act.put_defers, Act.put_comm _ v undef h2]
    case enter f args =>
      refine Calls.mono h fun e w'' he => ?_
      cases e with
      | returned u => exact ⟨_, Act.put_comm a v u h2, he⟩
      | panicked c => exact (hQ _ _ _ he).elim
      | outgrown => exact he
    case row row args => exact Rows.mono h fun u w'' he => ⟨_, Act.put_comm a v u h2, he⟩
  | halt x w' =>
    cases x <;> simp only [Oper.upon] at h ⊢
    case panic u => exact (hQ _ _ _ h).elim
theorem awayB_cons {i f : Nat} {fs : List Nat} (h : awayB ops (f :: fs) i = true) : (∃ x y, ops[f]? = some x ∧ ops[i]? = some y ∧ x.apart ops y = true) ∧ awayB ops fs i = true := by
  simp only [awayB, List.all_cons, Bool.and_eq_true] at h
  refine ⟨?_, h.2⟩
  have h1 := h.1
  cases hx : ops[f]? with
  | none => rw [hx] at h1; simp at h1
  | some x => cases hy : ops[i]? with
    | none => rw [hx, hy] at h1; simp at h1
    | some y => rw [hx, hy] at h1; exact ⟨x, y, rfl, rfl, h1⟩
theorem wp_putD {o : Oper} {i : Nat} (ho : ops[i]? = some o) (hs : ∀ cs b, o.op ≠ .select cs b) (hQ : ∀ c a w, ¬ Q (.panic c) a w) : ∀ (fs : List Nat) (D : List (Option Nat)) {a : Act} {w : World} {K : Act → World → Prop}, awayB ops fs i = true →
    o.wp P a w K Q → o.wp P (putD ops fs D a) w (fun a' w' => ∃ a0, a' = putD ops fs D a0 ∧ K a0 w') Q
  | [], D, a, w, K, _, h => by
    have e : ∀ a, putD ops [] D a = a := fun a => by cases D <;> rfl
    rw [e]
    exact Oper.wp_mono (fun a' w' hh => ⟨a', (e _).symm, hh⟩) h
  | f :: fs, [], a, w, K, _, h => Oper.wp_mono (fun a' w' hh => ⟨a', rfl, hh⟩) h
  | f :: fs, none :: D, a, w, K, ha, h => wp_putD ho hs hQ fs D (awayB_cons ha).2 h
  | f :: fs, some b :: D, a, w, K, ha, h => by
    obtain ⟨⟨x, y, hx, hy, hap⟩, ha2⟩ := awayB_cons ha
    rw [ho] at hy
    obtain rfl := Option.some.inj hy
    obtain ⟨h1, h2, _⟩ := Oper.apart_spec hap
    have hd : dstF ops f = x.dst := by simp [dstF, hx]
    refine Oper.wp_mono (fun a' w' hh => ?_) (wp_putD ho hs hQ fs D ha2 (wp_put1 (ops := ops) hs hQ (dstF ops f) (.pointer (some ⟨b, 0, none⟩)) (by rw [hd]; exact h1) (by rw [hd]; exact h2) h))
    obtain ⟨a0, e, a1, e1, hk⟩ := hh
    exact ⟨a1, by rw [e, e1]; rfl, hk⟩
theorem exec_putD {o : Oper} {i : Nat} (ho : ops[i]? = some o) (hs : ∀ cs b, o.op ≠ .select cs b) : ∀ (fs : List Nat) (D : List (Option Nat)) (a : Act), awayB ops fs i = true →
    execOp (putD ops fs D a).eval o = execOp a.eval o ∧ Region.wanted o (yielded ops (putD ops fs D a).tmps) = Region.wanted o (yielded ops a.tmps) ∧ ∀ v, putD ops fs D (a.put o.dst v) = (putD ops fs D a).put o.dst v
  | [], D, a, _ => by
    have e : ∀ a, putD ops [] D a = a := fun a => by cases D <;> rfl
    exact ⟨by rw [e], by rw [e], fun v => by rw [e, e]⟩
  | f :: fs, [], a, _ => ⟨rfl, rfl, fun _ => rfl⟩
  | f :: fs, none :: D, a, ha => exec_putD ho hs fs D a (awayB_cons ha).2
  | f :: fs, some b :: D, a, ha => by
    obtain ⟨⟨x, y, hx, hy, hap⟩, ha2⟩ := awayB_cons ha
    rw [ho] at hy
    obtain rfl := Option.some.inj hy
    obtain ⟨h1, h2, _⟩ := Oper.apart_spec hap
    have hd : dstF ops f = x.dst := by simp [dstF, hx]
    obtain ⟨e1, e2, e3⟩ := exec_putD ho hs fs D (a.put (dstF ops f) (.pointer (some ⟨b, 0, none⟩))) ha2
    refine ⟨e1.trans (execOp_put (ops := ops) o hs a _ _ (by rw [hd]; exact h1)), e2.trans (wanted_put o a _ _ (by rw [hd]; exact h1)), fun v => ?_⟩
    show putD ops fs D ((a.put o.dst v).put (dstF ops f) _) = _
    rw [Act.put_comm a v _ (fun d hd' => by rw [hd]; intro e; exact h2 d e hd')]
    exact e3 v
theorem listD_get : ∀ (fs : List Nat) (D : List (Option Nat)) (l : Array Bool) {k : Nat}, l.getD k false = true → (listD fs D l).getD k false = true
  | [], D, l, k, h => by cases D <;> exact h
  | f :: fs, [], l, k, h => h
  | f :: fs, none :: D, l, k, h => listD_get fs D l h
  | f :: fs, some b :: D, l, k, h => listD_get fs D _ (getD_set h)
theorem listD_un : ∀ (fs : List Nat) (D : List (Option Nat)) (l : Array Bool) {k : Nat}, k ∉ fs → (listD fs D l).getD k true = l.getD k true
  | [], D, l, k, _ => by cases D <;> rfl
  | f :: fs, [], l, k, _ => rfl
  | f :: fs, none :: D, l, k, h => listD_un fs D l (fun hm => h (List.mem_cons_of_mem _ hm))
  | f :: fs, some b :: D, l, k, h => by
    rw [listD, listD_un fs D _ (fun hm => h (List.mem_cons_of_mem _ hm))]
    exact getD_set_ne true (fun e => h (by rw [e]; exact List.mem_cons_self ..))
theorem listD_set {i : Nat} : ∀ (fs : List Nat) (D : List (Option Nat)) (l : Array Bool), i ∉ fs → listD fs D (l.setIfInBounds i true) = (listD fs D l).setIfInBounds i true
  | [], D, l, _ => by cases D <;> rfl
  | f :: fs, [], l, _ => rfl
  | f :: fs, none :: D, l, h => listD_set fs D l (fun hm => h (List.mem_cons_of_mem _ hm))
  | f :: fs, some b :: D, l, h => by
    show listD fs D ((l.setIfInBounds i true).setIfInBounds f true) = (listD fs D (l.setIfInBounds f true)).setIfInBounds i true
    rw [Array.setIfInBounds_comm _ _ (fun e => h (by rw [e]; exact List.mem_cons_self ..))]
    exact listD_set fs D _ (fun hm => h (List.mem_cons_of_mem _ hm))
theorem listAll_get : ∀ (fs : List Nat) (l : Array Bool) {k : Nat}, l.getD k false = true → (listAll fs l).getD k false = true
  | [], l, k, h => h
  | f :: fs, l, k, h => listAll_get fs _ (getD_set h)
theorem listAll_un : ∀ (fs : List Nat) (l : Array Bool) {k : Nat}, k ∉ fs → (listAll fs l).getD k true = l.getD k true
  | [], l, k, _ => rfl
  | f :: fs, l, k, h => by
    rw [listAll, List.foldl_cons]
    exact (listAll_un fs _ (fun hm => h (List.mem_cons_of_mem _ hm))).trans (getD_set_ne true (fun e => h (by rw [e]; exact List.mem_cons_self ..)))
theorem listD_sub : ∀ (fs : List Nat) (D : List (Option Nat)) (l : Array Bool) {k : Nat}, (listD fs D l).getD k false = true → (listAll fs l).getD k false = true
  | [], D, l, k, h => by cases D <;> exact h
  | f :: fs, [], l, k, h => listAll_get (f :: fs) l h
  | f :: fs, none :: D, l, k, h => by
    have h1 := listD_sub fs D l h
    show (listAll fs (l.setIfInBounds f true)).getD k false = true
    have key : ∀ (fs : List Nat) (l l' : Array Bool), (∀ k, l.getD k false = true → l'.getD k false = true) → l.size = l'.size → ∀ k, (listAll fs l).getD k false = true → (listAll fs l').getD k false = true := by
      intro fs
      induction fs with
      | nil => intro l l' h _; exact h
      | cons g fs ih =>
        intro l l' h hs
        refine ih _ _ (fun k hk => ?_) (by simpa using hs)
        simp only [Array.getD_eq_getD_getElem?, Array.getElem?_setIfInBounds] at hk ⊢
        split
        · rename_i e
          rw [if_pos e] at hk
          split
          · rfl
          · rename_i hlt; rw [if_neg (by rw [hs]; exact hlt)] at hk; exact hk
        · rename_i e
          rw [if_neg e] at hk
          have := h k
          simp only [Array.getD_eq_getD_getElem?] at this
          exact this hk
    exact key fs _ _ (fun k hk => getD_set hk) (by simp) _ h1
  | f :: fs, some b :: D, l, k, h => listD_sub fs D _ h
theorem set_true (l : Array Bool) (j : Nat) : (l.setIfInBounds j true).getD j true = true := by
  simp only [Array.getD_eq_getD_getElem?, Array.getElem?_setIfInBounds, if_true]
  split <;> rfl
theorem setD {j : Nat} {oj : Oper} (hj : ops[j]? = some oj) (hsj : ∀ cs b, oj.op ≠ .select cs b) : ∀ (fs : List Nat) (D : List (Option Nat)) (l : Array Bool), D.length = fs.length → j ∈ fs → floatsB ops fs = true → (listD fs D l).getD j true = false →
    ∃ D' : Nat → List (Option Nat), ∀ b, (D' b).length = fs.length ∧ (∀ l, listD fs (D' b) l = (listD fs D l).setIfInBounds j true) ∧ (∀ a, putD ops fs (D' b) a = (putD ops fs D a).put oj.dst (.pointer (some ⟨b, 0, none⟩))) ∧ (rowsD P ops fs (D' b)).Perm (rowF P ops j b :: rowsD P ops fs D) ∧ open_ (D' b) + 1 = open_ D
  | [], D, l, _, hm, _, _ => by cases hm
  | f :: fs, [], l, hl, _, _, _ => by simp at hl
  | f :: fs, x :: D, l, hl, hm, hf, h => by
    simp only [floatsB, Bool.and_eq_true, Bool.not_eq_true'] at hf
    obtain ⟨⟨⟨f1, f2⟩, f3⟩, f4⟩ := hf
    have hnm : f ∉ fs := fun hc => by rw [List.contains_iff_mem.2 hc] at f3; cases f3
    have hl' : D.length = fs.length := by simpa using hl
    by_cases e : f = j
    · subst e
      cases x with
      | some c =>
        rw [listD, listD_un fs D _ hnm, set_true] at h
        cases h
      | none =>
        refine ⟨fun b => some b :: D, fun b => ⟨by simp [hl'], fun l => ?_, fun a => ?_, List.Perm.refl _, by simp [open_]⟩⟩
        · exact listD_set fs D l hnm
        · refine Eq.trans ?_ ((exec_putD hj hsj fs D a f2).2.2 (.pointer (some ⟨b, 0, none⟩)))
          show putD ops fs D (a.put (dstF ops f) _) = _
          simp [dstF, hj]
    · have hm' : j ∈ fs := by
        rcases List.mem_cons.1 hm with h1 | h1
        · exact absurd h1.symm e
        · exact h1
      cases x with
      | none =>
        obtain ⟨D', hD⟩ := setD hj hsj fs D l hl' hm' f4 h
        refine ⟨fun b => none :: D' b, fun b => ?_⟩
        obtain ⟨d1, d2, d3, d4, d5⟩ := hD b
        exact ⟨by simp [d1], fun l => d2 l, fun a => d3 a, d4, by simp only [open_, List.filter_cons, Option.isNone_none, if_true, List.length_cons] at d5 ⊢; omega⟩
      | some c =>
        obtain ⟨D', hD⟩ := setD hj hsj fs D _ hl' hm' f4 h
        refine ⟨fun b => some c :: D' b, fun b => ?_⟩
        obtain ⟨d1, d2, d3, d4, d5⟩ := hD b
        refine ⟨by simp [d1], fun l => d2 _, fun a => d3 _, ?_, by simpa [open_] using d5⟩
        exact (d4.cons (rowF P ops f c)).trans (List.Perm.swap _ _ _)
theorem floatB_spec {i : Nat} (h : floatB ops i = true) : ∃ o T, ops[i]? = some o ∧ o.op = .alloc T ∧ o.guard = none ∧ ∀ e ∈ o.after, Region.binds .any e = false := by
  unfold floatB at h
  cases ho : ops[i]? with
  | none => rw [ho] at h; cases h
  | some o =>
    rw [ho] at h
    simp only [Bool.and_eq_true, Array.all_eq_true_iff_forall_mem, Bool.not_eq_true', Option.isNone_iff_eq_none] at h
    obtain ⟨⟨h1, h2⟩, h3⟩ := h
    cases hop : o.op <;> rw [hop] at h1 <;> first | exact ⟨o, _, rfl, hop, h2, h3⟩ | cases h1
theorem floatsB_mem : ∀ {fs : List Nat}, floatsB ops fs = true → ∀ f ∈ fs, floatB ops f = true
  | [], _, f, hf => by cases hf
  | g :: fs, h, f, hf => by
    simp only [floatsB, Bool.and_eq_true] at h
    rcases List.mem_cons.1 hf with rfl | hf
    · exact h.1.1.1
    · exact floatsB_mem h.2 f hf
theorem rowF_eq {i b : Nat} {o : Oper} {T : TypeId} {cs : List Value} (ho : ops[i]? = some o) (hop : o.op = .alloc T) (hz : zeroCells' P T = some cs) : rowF P ops i b = rowA b cs T := by
  simp [rowF, typF, ho, hop, hz]
theorem zeroB_spec {i : Nat} {o : Oper} {T : TypeId} (h : zeroB P ops i = true) (ho : ops[i]? = some o) (hop : o.op = .alloc T) : ∃ cs, zeroCells' P T = some cs := by
  simp only [zeroB, ho, hop] at h
  exact Option.isSome_iff_exists.1 h
theorem wp_alloc2 {o : Oper} {a : Act} {w : World} {K : Act → World → Prop} {Is : List Asn} (T : TypeId) (ho : o.op = .alloc T) {cs : List Value} (hz : zeroCells' P T = some cs) (hs : St w0 w Is) (h0 : SS w0 L0 w)
    (h : ∀ w' b, St w0 w' (rowA b cs T :: Is) → SS w0 L0 w' → K (a.put o.dst (.pointer (some ⟨b, 0, none⟩))) w') : o.wp P a w K Q := by
  obtain ⟨i, z, h1, h2, rfl⟩ := zeroCells_some hz
  have hr : (Instr.alloc T true (.tuple #[])).run P w = .ok (.pointer (some ⟨w.heap.size, 0, none⟩)) (w.alloc (.cells z.cells T)) := by
    simp [Instr.alloc, zeroValue, typeInfo, h1, h2, newVar, newRow]
  unfold Oper.wp execOp
  simp only [ho, Sem.run_bind, hr, Result.andThen_ok, Sem.run_pure]
  obtain ⟨⟨w1, s1⟩, e⟩ := h0
  have s1' : St w0 w L0 := e ▸ s1
  exact h _ _ (hs.alloc z.cells T) (StW.mk' (s1'.grow ((Ex.refl w).alloc _)))
section
variable {es : List Nat}
theorem float_step {n : Nat} {fs : List Nat} {D : List (Option Nat)} {listed : Array Bool} {a : Act} {w : World} {L : List Asn} {j : Nat} (hs : Region.noSelect ops = true) (hf : floatsB ops fs = true) (hz : fs.all (zeroB P ops) = true) (hl : D.length = fs.length)
    (hj : j ∈ fs) (hun : (listD fs D listed).getD j true = false) (hS : SS w0 L0 w) (hst : St w0 w (rowsD P ops fs D ++ L))
    (ih : ∀ D' w', D'.length = fs.length → open_ D' + 1 = open_ D → SS w0 L0 w' → St w0 w' (rowsD P ops fs D' ++ L) → wpAnyT P ops Q (SS w0 L0) es n (listD fs D' listed) (putD ops fs D' a) w') :
    wpOp P ops Q j (fun a' w' => (needsT ops es j = true → SS w0 L0 w') ∧ wpAnyT P ops Q (SS w0 L0) es n ((listD fs D listed).setIfInBounds j true) a' w') (putD ops fs D a) w := by
  obtain ⟨o, T, ho, hop, hg, _⟩ := floatB_spec (floatsB_mem hf j hj)
  obtain ⟨cs, hcs⟩ := zeroB_spec (List.all_eq_true.1 hz j hj) ho hop
  obtain ⟨D', hD⟩ := setD (P := P) ho (fun cs b => by rw [hop]; intro h; cases h) fs D listed hl hj hf hun
  unfold wpOp
  rw [ho]
  simp only
  rw [if_pos (by unfold Region.wanted; rw [hg])]
  refine .inl (wp_alloc2 T hop hcs hst hS fun w' b h1 h2 => ⟨fun _ => h2, ?_⟩)
  obtain ⟨d1, d2, d3, d4, d5⟩ := hD b
  rw [← d2, ← d3]
  refine ih (D' b) w' d1 d5 h2 (h1.arr (arr_perm ?_))
  rw [← rowF_eq (P := P) (b := b) ho hop hcs]
  exact (d4.symm.append_right L)
theorem ready_all {fs : List Nat} {D : List (Option Nat)} {listed : Array Bool} {k : Nat} (hk : k ∈ Region.ready .any ops (listD fs D listed)) (hn : k ∉ fs) : k ∈ Region.ready .any ops (listAll fs listed) := by
  rw [mem_ready] at *
  obtain ⟨h0, o, ho, hall⟩ := hk
  refine ⟨?_, o, ho, fun e he hb => listD_sub fs D listed (hall e he hb)⟩
  rw [listAll_un fs listed hn]
  rwa [listD_un fs D listed hn] at h0
theorem ready_real {fs : List Nat} {D : List (Option Nat)} {listed : Array Bool} {i : Nat} (hi : i ∈ Region.ready .any ops listed) (hn : i ∉ fs) : i ∈ Region.ready .any ops (listD fs D listed) := by
  rw [mem_ready] at *
  obtain ⟨h0, o, ho, hall⟩ := hi
  exact ⟨by rw [listD_un fs D listed hn]; exact h0, o, ho, fun e he hb => listD_get fs D listed (hall e he hb)⟩
theorem un_real {fs : List Nat} {D : List (Option Nat)} {listed : Array Bool} {k : Nat} (h : (listD fs D listed).getD k true = false) : listed.getD k true = false := by
  cases hh : listed.getD k true with
  | false => rfl
  | true =>
    have key : ∀ (fs : List Nat) (D : List (Option Nat)) (l : Array Bool), l.getD k true = true → (listD fs D l).getD k true = true := by
      intro fs
      induction fs with
      | nil => intro D l h; cases D <;> exact h
      | cons f fs ih =>
        intro D l h
        cases D with
        | nil => exact h
        | cons x D => cases x with
          | none => exact ih D l h
          | some b =>
            refine ih D _ ?_
            by_cases e : f = k
            · subst e; exact set_true l f
            · rw [getD_set_ne true e]; exact h
    rw [key fs D listed hh] at h; cases h
theorem closed_real {fs : List Nat} {D : List (Option Nat)} : ∀ {listed : Array Bool}, floatsB ops fs = true → Closed ops listed → Closed ops (listD fs D listed) := by
  induction fs generalizing D with
  | nil => intro l _ h; cases D <;> exact h
  | cons f fs ih =>
    intro l hf h
    cases D with
    | nil => exact h
    | cons x D =>
      simp only [floatsB, Bool.and_eq_true] at hf
      cases x with
      | none => exact ih hf.2 h
      | some b =>
        refine ih hf.2 ?_
        obtain ⟨o, T, ho, hop, hg, haf⟩ := floatB_spec hf.1.1.1
        intro k ok hk hl x hx hb
        by_cases e : k = f
        · subst e
          rw [ho] at hk
          obtain rfl := Option.some.inj hk
          rw [haf x hx] at hb; cases hb
        · refine getD_set (h k ok hk ?_ x hx hb)
          simp only [Array.getD_eq_getD_getElem?, Array.getElem?_setIfInBounds] at hl ⊢
          rw [if_neg (fun h => e h.symm)] at hl
          exact hl
theorem oneF_sound {n i b : Nat} {fs : List Nat} {D : List (Option Nat)} {s : Bool} {listed : Array Bool} {a : Act} {w : World} {L : List Asn} {R : Act → List Asn → Prop} (hs : Region.noSelect ops = true) (hQ : ∀ c a w, ¬ Q (.panic c) a w)
    (haw : awayB ops fs i = true) (hif : i ∉ fs) (hok : okOne ops es s i b = true) (hS : s = true → SS w0 L0 w) (hst : St w0 w (rowsD P ops fs D ++ L))
    (hR : ∀ a' w' L', (after1 s b = true → SS w0 L0 w') → St w0 w' (rowsD P ops fs D ++ L') → R a' L' → wpAnyT P ops Q (SS w0 L0) es n (listD fs D (listed.setIfInBounds i true)) (putD ops fs D a') w')
    (h : OneF P ops w0 L0 Q i b R a L) : wpOp P ops Q i (fun a' w' => (needsT ops es i = true → SS w0 L0 w') ∧ wpAnyT P ops Q (SS w0 L0) es n ((listD fs D listed).setIfInBounds i true) a' w') (putD ops fs D a) w := by
  unfold OneF at h
  cases ho : ops[i]? with
  | none => rw [ho] at h; exact h.elim
  | some o =>
    rw [ho] at h
    simp only at h
    have hso : ∀ cs b, o.op ≠ .select cs b := fun cs b => Region.noSelect_spec hs i o cs b ho
    obtain ⟨e1, e2, e3⟩ := exec_putD ho hso fs D a haw
    unfold wpOp
    rw [ho]
    simp only
    rw [e2]
    rw [← listD_set fs D listed hif]
    by_cases hw : Region.wanted o (yielded ops a.tmps) = true
    · simp only [hw, if_true] at h ⊢
      refine .inl ?_
      refine Oper.wp_mono (fun a' w' hh => ?_) (wp_putD ho hso hQ fs D haw (h w (bigA (rowsD P ops fs D)) (St.big hst)))
      obtain ⟨a0, rfl, h1, L', h2, h3⟩ := hh
      by_cases hb : b = 1
      · exact ⟨fun _ => h1 hb, hR a0 w' L' (fun _ => h1 hb) (St.unbig h2) h3⟩
      · have hn : needsT ops es i = false := by simpa [okOne, hb] using hok
        exact ⟨fun hc => (by rw [hn] at hc; cases hc), hR a0 w' L' (fun hc => by simp [after1, hb] at hc) (St.unbig h2) h3⟩
    · simp only [hw] at h ⊢
      rw [← e3]
      by_cases hb : b = 1
      · have hs' : s = true := by simpa [okOne, hb] using hok
        exact ⟨fun _ => hS hs', hR _ w L (fun _ => hS hs') hst h⟩
      · have hn : needsT ops es i = false := by simpa [okOne, hb] using hok
        exact ⟨fun hc => (by rw [hn] at hc; cases hc), hR _ w L (fun hc => by simp [after1, hb] at hc) hst h⟩
def Fine (P : Program) (ops : Array Oper) (w0 : World) (L0 : List Asn) (n : Nat) (p : PlanF) (fs : List Nat) (D : List (Option Nat)) (s : Bool) (listed : Array Bool) (es : List Nat) (w : World) (L : List Asn) : Prop :=
  Closed ops listed ∧ p.fits = true ∧ floatsB ops fs = true ∧ fs.all (zeroB P ops) = true ∧ (∀ f ∈ fs, listed.getD f true = false) ∧ D.length = fs.length ∧ (fs ≠ [] → s = true) ∧ (s = true → SS w0 L0 w) ∧ n = p.len + open_ D ∧ planFF ops es s p fs listed = true ∧ St w0 w (rowsD P ops fs D ++ L)
theorem float_ready {fs : List Nat} {listed : Array Bool} {f : Nat} (hf : floatsB ops fs = true) (hm : f ∈ fs) (hun : listed.getD f true = false) : f ∈ Region.ready .any ops listed := by
  obtain ⟨o, T, ho, _, _, haf⟩ := floatB_spec (floatsB_mem hf f hm)
  rw [mem_ready]
  exact ⟨hun, o, ho, fun e he hb => by rw [haf e he] at hb; cases hb⟩
theorem set_un {listed : Array Bool} {i f : Nat} (h : listed.getD f true = false) (hne : i ≠ f) : (listed.setIfInBounds i true).getD f true = false := by rw [getD_set_ne true hne]; exact h
theorem wpF_sound (hs : Region.noSelect ops = true) (hQ : ∀ c a w, ¬ Q (.panic c) a w) : ∀ (n : Nat) (p : PlanF) (fs : List Nat) (D : List (Option Nat)) (s : Bool) (listed : Array Bool) (a : Act) (w : World) (L : List Asn),
    Fine P ops w0 L0 n p fs D s listed es w L → wpF P ops w0 L0 Q p a L → wpAnyT P ops Q (SS w0 L0) es n (listD fs D listed) (putD ops fs D a) w := by
  intro n
  induction n with
  | zero =>
    intro p
    induction p with
    | done =>
      rintro fs D s listed a w L ⟨hcl, hfit, hfl, hz, hun, hD, hfs, hS, hn, hp, hst⟩ h
      simp only [planFF, Bool.and_eq_true, List.isEmpty_iff] at hp
      obtain ⟨rfl, hr⟩ := hp
      obtain rfl : D = [] := List.eq_nil_of_length_eq_zero hD
      exact ⟨hr, h w hst⟩
    | land i p ihp =>
      rintro fs D s listed a w L ⟨hcl, hfit, hfl, hz, hun, hD, hfs, hS, hn, hp, hst⟩ h
      cases fs with
      | nil => simp [planFF] at hp
      | cons f fs =>
        simp only [planFF, Bool.and_eq_true, beq_iff_eq] at hp
        obtain ⟨⟨rfl, hr⟩, hp⟩ := hp
        have hfl2 := hfl
        simp only [floatsB, Bool.and_eq_true, Bool.not_eq_true'] at hfl
        obtain ⟨⟨⟨f1, f2⟩, f3⟩, f4⟩ := hfl
        have hnm : f ∉ fs := fun hc => by rw [List.contains_iff_mem.2 hc] at f3; cases f3
        cases D with
        | nil => simp at hD
        | cons x D =>
          cases x with
          | none => simp [open_, PlanF.len] at hn
          | some b =>
            obtain ⟨o, T, ho, hop, hg, haf⟩ := floatB_spec f1
            simp only [List.all_cons, Bool.and_eq_true] at hz
            obtain ⟨cs, hcs⟩ := zeroB_spec hz.1 ho hop
            unfold wpF at h
            rw [ho] at h
            have h' := h T cs hop hcs b
            have := ihp fs D s (listed.setIfInBounds f true) _ w _ ⟨hcl.step (float_ready hfl2 (List.mem_cons_self ..) (hun f (List.mem_cons_self ..))), hfit, f4, hz.2, fun g hg => set_un (hun g (List.mem_cons_of_mem _ hg)) (fun e => hnm (e ▸ hg)), by simpa using hD, fun _ => hfs (by simp), hS, by simpa [open_, PlanF.len] using hn, hp, hst.arr (arr_perm (by rw [← rowF_eq (P := P) (b := b) ho hop hcs]; exact List.perm_middle.symm))⟩ h'
            simpa [listD, putD, dstF, ho] using this
    | early i p _ => rintro fs D s listed a w L ⟨_, _, _, _, _, _, _, _, hn, _, _⟩ _; simp only [PlanF.len] at hn; omega
    | pure i p _ => rintro fs D s listed a w L ⟨_, _, _, _, _, _, _, _, hn, _, _⟩ _; simp only [PlanF.len] at hn; omega
    | forced i b p _ => rintro fs D s listed a w L ⟨_, _, _, _, _, _, _, _, hn, _, _⟩ _; simp only [PlanF.len] at hn; omega
    | fork i b p j c q _ _ =>
      rintro fs D s listed a w L ⟨_, hfit, _, _, _, _, _, _, hn, _, _⟩ _
      simp only [PlanF.fits, Bool.and_eq_true] at hfit
      simp only [PlanF.len, hfit.1.1, if_true] at hn
      omega
  | succ n ih =>
    have fstep : ∀ {p : PlanF} {fs : List Nat} {D : List (Option Nat)} {s : Bool} {listed : Array Bool} {a : Act} {w : World} {L : List Asn} {j : Nat}, Fine P ops w0 L0 (n + 1) p fs D s listed es w L → wpF P ops w0 L0 Q p a L → j ∈ fs → (listD fs D listed).getD j true = false →
        wpOp P ops Q j (fun a' w' => (needsT ops es j = true → SS w0 L0 w') ∧ wpAnyT P ops Q (SS w0 L0) es n ((listD fs D listed).setIfInBounds j true) a' w') (putD ops fs D a) w := by
      rintro p fs D s listed a w L j ⟨hcl, hfit, hfl, hz, hun, hD, hfs, hS, hn, hp, hst⟩ h hj hu
      have hne : fs ≠ [] := fun e => by rw [e] at hj; cases hj
      exact float_step hs hfl hz hD hj hu (hS (hfs hne)) hst fun D' w' d1 d2 d3 d4 => ih p fs D' s listed a w' L ⟨hcl, hfit, hfl, hz, hun, d1, hfs, fun _ => d3, by omega, hp, d4⟩ h
    intro p
    induction p with
    | done =>
      rintro fs D s listed a w L ⟨hcl, hfit, hfl, hz, hun, hD, hfs, hS, hn, hp, hst⟩ h
      simp only [planFF, Bool.and_eq_true, List.isEmpty_iff] at hp
      obtain ⟨rfl, hr⟩ := hp
      obtain rfl : D = [] := List.eq_nil_of_length_eq_zero hD
      simp [open_, PlanF.len] at hn
    | land i p ihp =>
      rintro fs D s listed a w L hall h
      obtain ⟨hcl, hfit, hfl, hz, hun, hD, hfs, hS, hn, hp, hst⟩ := hall
      cases fs with
      | nil => simp [planFF] at hp
      | cons f fs =>
        have hp0 := hp
        simp only [planFF, Bool.and_eq_true, beq_iff_eq] at hp
        obtain ⟨⟨rfl, hr⟩, hp⟩ := hp
        have hfl2 := hfl
        simp only [floatsB, Bool.and_eq_true, Bool.not_eq_true'] at hfl
        obtain ⟨⟨⟨f1, f2⟩, f3⟩, f4⟩ := hfl
        have hnm : f ∉ fs := fun hc => by rw [List.contains_iff_mem.2 hc] at f3; cases f3
        cases D with
        | nil => simp at hD
        | cons x D =>
          cases x with
          | none =>
            have hfr : f ∈ Region.ready .any ops (listD (f :: fs) (none :: D) listed) := by
              refine float_ready hfl2 (List.mem_cons_self ..) ?_
              rw [listD, listD_un fs D listed hnm]
              exact hun f (List.mem_cons_self ..)
            refine ⟨fun h0 => (by rw [h0] at hfr; cases hfr), fun k hk => ?_⟩
            have hkf : k ∈ f :: fs := by
              by_cases hm : k ∈ fs
              · exact List.mem_cons_of_mem _ hm
              · have := ready_all (D := D) hk hm
                rw [hr] at this
                rw [List.mem_singleton.1 this]; exact List.mem_cons_self ..
            exact fstep ⟨hcl, hfit, hfl2, hz, hun, hD, hfs, hS, hn, hp0, hst⟩ h hkf (mem_ready.1 hk).1
          | some b =>
            obtain ⟨o, T, ho, hop, hg, haf⟩ := floatB_spec f1
            simp only [List.all_cons, Bool.and_eq_true] at hz
            obtain ⟨cs, hcs⟩ := zeroB_spec hz.1 ho hop
            unfold wpF at h
            rw [ho] at h
            have h' := h T cs hop hcs b
            have := ihp fs D s (listed.setIfInBounds f true) _ w _ ⟨hcl.step (float_ready hfl2 (List.mem_cons_self ..) (hun f (List.mem_cons_self ..))), hfit, f4, hz.2, fun g hg => set_un (hun g (List.mem_cons_of_mem _ hg)) (fun e => hnm (e ▸ hg)), by simpa using hD, fun _ => hfs (by simp), hS, by simpa [open_, PlanF.len] using hn, hp, hst.arr (arr_perm (by rw [← rowF_eq (P := P) (b := b) ho hop hcs]; exact List.perm_middle.symm))⟩ h'
            simpa [listD, putD, dstF, ho] using this
    | early i p _ =>
      rintro fs D s listed a w L hall h
      obtain ⟨hcl, hfit, hfl, hz, hun, hD, hfs, hS, hn, hp, hst⟩ := hall
      simp only [planFF, Bool.and_eq_true, Bool.not_eq_true'] at hp
      obtain ⟨⟨⟨⟨⟨⟨⟨hb, hie⟩, hr⟩, hfr⟩, hpl⟩, haw⟩, hif⟩, hp⟩ := hp
      have hif' : i ∉ fs := fun hc => by rw [List.contains_iff_mem.2 hc] at hif; cases hif
      have hr' : i ∈ Region.ready .any ops listed := by simpa using hr
      unfold wpF at h
      cases ho : ops[i]? with
      | none => rw [ho] at h; exact h.elim
      | some o =>
        rw [ho] at h hpl
        simp only [Option.map_some, Option.getD_some] at hpl
        simp only at h
        have hso : ∀ cs b, o.op ≠ .select cs b := fun cs b => Region.noSelect_spec hs i o cs b ho
        obtain ⟨e1, e2, e3⟩ := exec_putD ho hso fs D a haw
        have go : ∀ v, YieldsIf P ops (SS w0 L0) o v (putD ops fs D a) → wpF P ops w0 L0 Q p (a.put o.dst v) L → wpAnyT P ops Q (SS w0 L0) es (n + 1) (listD fs D listed) (putD ops fs D a) w := fun v hy hw => by
          refine wpAnyT_first ho (by simpa using hie) (Region.noSelect_spec hs) hQ n _ _ _ (closed_real hfl hcl) (fun j oj hj hne hu hno => Region.free_spec ho hfr j oj hj hne (un_real hu) hno) (ready_real hr' hif') hy (hS hb) ?_
          rw [← listD_set fs D listed hif', ← e3]
          exact ih p fs D s _ _ w L ⟨hcl.step hr', hfit, hfl, hz, fun g hg => set_un (hun g hg) (fun e => hif' (e ▸ hg)), hD, hfs, hS, by simp only [PlanF.len] at hn; omega, hp, hst⟩ hw
        by_cases hw : Region.wanted o (yielded ops a.tmps) = true
        · simp only [hw, if_true] at h
          obtain ⟨v, h1, h2⟩ := quiet_plain hpl h
          exact go v (.inl ⟨e2.trans hw, fun w hw => by rw [e1]; exact h1 w hw⟩) h2
        · simp only [hw] at h
          exact go undef (.inr ⟨e2.trans (by simpa using hw), rfl⟩) h
    | pure i p _ =>
      rintro fs D s listed a w L hall h
      obtain ⟨hcl, hfit, hfl, hz, hun, hD, hfs, hS, hn, hp, hst⟩ := hall
      simp only [planFF, Bool.and_eq_true, Bool.not_eq_true'] at hp
      obtain ⟨⟨⟨⟨⟨⟨hni, hr⟩, hfr⟩, hpl⟩, haw⟩, hif⟩, hp⟩ := hp
      have hif' : i ∉ fs := fun hc => by rw [List.contains_iff_mem.2 hc] at hif; cases hif
      have hr' : i ∈ Region.ready .any ops listed := by simpa using hr
      unfold wpF at h
      cases ho : ops[i]? with
      | none => rw [ho] at h; exact h.elim
      | some o =>
        rw [ho] at h hpl
        simp only [Option.map_some, Option.getD_some] at hpl
        simp only at h
        have hso : ∀ cs b, o.op ≠ .select cs b := fun cs b => Region.noSelect_spec hs i o cs b ho
        obtain ⟨e1, e2, e3⟩ := exec_putD ho hso fs D a haw
        have go : ∀ v, YieldsIf P ops (fun _ => True) o v (putD ops fs D a) → wpF P ops w0 L0 Q p (a.put o.dst v) L → wpAnyT P ops Q (SS w0 L0) es (n + 1) (listD fs D listed) (putD ops fs D a) w := fun v hy hw => by
          refine wpAnyT_firstP ho hni (Region.noSelect_spec hs) hQ n _ _ _ (fun j oj hj hne hu hno => Region.free_spec ho hfr j oj hj hne (un_real hu) hno) (ready_real hr' hif') hy ?_
          rw [← listD_set fs D listed hif', ← e3]
          exact ih p fs D s _ _ w L ⟨hcl.step hr', hfit, hfl, hz, fun g hg => set_un (hun g hg) (fun e => hif' (e ▸ hg)), hD, hfs, hS, by simp only [PlanF.len] at hn; omega, hp, hst⟩ hw
        by_cases hw : Region.wanted o (yielded ops a.tmps) = true
        · simp only [hw, if_true] at h
          obtain ⟨v, h1, h2⟩ := quiet_plain hpl h
          exact go v (.inl ⟨e2.trans hw, fun w hw => by rw [e1]; exact h1 w hw⟩) h2
        · simp only [hw] at h
          exact go undef (.inr ⟨e2.trans (by simpa using hw), rfl⟩) h
    | forced i b p _ =>
      rintro fs D s listed a w L hall h
      have hall0 := hall
      obtain ⟨hcl, hfit, hfl, hz, hun, hD, hfs, hS, hn, hp, hst⟩ := hall
      simp only [planFF, Bool.and_eq_true, Bool.not_eq_true', Bool.or_eq_true, List.isEmpty_iff, beq_iff_eq] at hp
      obtain ⟨⟨⟨⟨⟨⟨h1, hok⟩, hr⟩, hra⟩, haw⟩, hif⟩, hp⟩ := hp
      have hif' : i ∉ fs := fun hc => by rw [List.contains_iff_mem.2 hc] at hif; cases hif
      have hr' : i ∈ Region.ready .any ops listed := by simpa using hr
      refine ⟨fun h0 => (by have := ready_real (D := D) hr' hif'; rw [h0] at this; cases this), fun k hk => ?_⟩
      by_cases hkf : k ∈ fs
      · exact fstep hall0 h hkf (mem_ready.1 hk).1
      · have hki := ready_all hk hkf
        rw [hra] at hki
        obtain rfl : k = i := by simpa using hki
        unfold wpF at h
        refine oneF_sound hs hQ haw hif' hok hS hst (fun a' w' L' hs' hst' hR => ?_) h
        exact ih p fs D _ _ a' w' L' ⟨hcl.step hr', hfit, hfl, hz, fun g hg => set_un (hun g hg) (fun e => hif' (e ▸ hg)), hD, fun hne => by
          rcases h1 with h1 | h1
          · exact absurd h1 hne
          · simp [after1, h1, hfs hne], hs', by simp only [PlanF.len] at hn; omega, hp, hst'⟩ hR
    | fork i b p j c q _ _ =>
      rintro fs D s listed a w L hall h
      have hall0 := hall
      obtain ⟨hcl, hfit, hfl, hz, hun, hD, hfs, hS, hn, hp, hst⟩ := hall
      simp only [planFF, Bool.and_eq_true, Bool.not_eq_true', Bool.or_eq_true, List.isEmpty_iff, beq_iff_eq] at hp
      obtain ⟨⟨⟨⟨⟨⟨⟨⟨⟨⟨⟨h1, hok⟩, hok2⟩, hr⟩, hr2⟩, hra⟩, haw⟩, hif⟩, haw2⟩, hif2⟩, hp⟩, hp2⟩ := hp
      have hif' : i ∉ fs := fun hc => by rw [List.contains_iff_mem.2 hc] at hif; cases hif
      have hr' : i ∈ Region.ready .any ops listed := by simpa using hr
      have hif2' : j ∉ fs := fun hc => by rw [List.contains_iff_mem.2 hc] at hif2; cases hif2
      have hr2' : j ∈ Region.ready .any ops listed := by simpa using hr2
      simp only [PlanF.fits, Bool.and_eq_true] at hfit
      obtain ⟨⟨hl, hf1⟩, hf2⟩ := hfit
      simp only [PlanF.len, hl, if_true] at hn
      simp only [beq_iff_eq] at hl
      refine ⟨fun h0 => (by have := ready_real (D := D) hr' hif'; rw [h0] at this; cases this), fun k hk => ?_⟩
      by_cases hkf : k ∈ fs
      · exact fstep hall0 h hkf (mem_ready.1 hk).1
      · have hki := ready_all hk hkf
        rw [hra] at hki
        unfold wpF at h
        have hki' : k = i ∨ k = j := by simpa using hki
        rcases hki' with rfl | rfl
        · refine oneF_sound hs hQ haw hif' hok hS hst (fun a' w' L' hs' hst' hR => ?_) h.1
          exact ih p fs D _ _ a' w' L' ⟨hcl.step hr', hf1, hfl, hz, fun g hg => set_un (hun g hg) (fun e => hif' (e ▸ hg)), hD, fun hne => by
            rcases h1 with h1 | h1
            · exact absurd h1 hne
            · simp [after1, h1.1, hfs hne], hs', by omega, hp, hst'⟩ hR
        · refine oneF_sound hs hQ haw2 hif2' hok2 hS hst (fun a' w' L' hs' hst' hR => ?_) h.2
          exact ih q fs D _ _ a' w' L' ⟨hcl.step hr2', hf2, hfl, hz, fun g hg => set_un (hun g hg) (fun e => hif2' (e ▸ hg)), hD, fun hne => by
            rcases h1 with h1 | h1
            · exact absurd h1 hne
            · simp [after1, h1.2, hfs hne], hs', by omega, hp2, hst'⟩ hR
end
end
section
variable {P : Program} {l : List Oper} {Q : Exit → Act → World → Prop} {w0 w : World} {L0 L : List Asn} {a : Act}
theorem wp_region_fl {id : Nat} (hs : St w0 w L) (hk : Arr L L0) (p : PlanF) (fs : List Nat) (hm : P.follows .mixedOrders = true) (hB : planFB P l.toArray p fs = true)
    (h : Nonempty (StW w0 L0) → wpF P l.toArray w0 L0 (NoPanic Q) p a L) : (Code.region id l.toArray true).wp P Q a w := by
  simp only [planFB, Bool.and_eq_true, beq_iff_eq] at hB
  obtain ⟨⟨⟨⟨⟨h1, h2⟩, h3⟩, h4⟩, h5⟩, h6⟩ := hB
  refine wp_region_noPanic (wp_region_any hm ?_)
  have hrep : ∀ k, (Array.replicate l.toArray.size false).getD k false = false := fun k => by
    simp only [Array.getD_eq_getD_getElem?, Array.getElem?_replicate]
    split <;> rfl
  have hc0 : Closed l.toArray (Array.replicate l.toArray.size false) := fun k o _ hl => by rw [hrep k] at hl; cases hl
  have hnone : ∀ (n : Nat) (fs : List Nat) (x : Array Bool), listD fs (List.replicate n none) x = x := by
    intro n fs
    induction fs generalizing n with
    | nil => intro x; cases n <;> rfl
    | cons f fs ih => intro x; cases n with
      | zero => rfl
      | succ n => exact ih n x
  have hnone2 : ∀ (n : Nat) (fs : List Nat) (x : Act), putD l.toArray fs (List.replicate n none) x = x := by
    intro n fs
    induction fs generalizing n with
    | nil => intro x; cases n <;> rfl
    | cons f fs ih => intro x; cases n with
      | zero => rfl
      | succ n => exact ih n x
  have hnone3 : ∀ (n : Nat) (fs : List Nat), rowsD P l.toArray fs (List.replicate n none) = [] := by
    intro n fs
    induction fs generalizing n with
    | nil => cases n <;> rfl
    | cons f fs ih => cases n with
      | zero => rfl
      | succ n => exact ih n
  have hop : open_ (List.replicate fs.length none) = fs.length := by simp [open_]
  have hsz : ∀ f ∈ fs, (Array.replicate l.toArray.size false).getD f true = false := fun f hf => by
    obtain ⟨o, _, ho, _⟩ := floatB_spec (floatsB_mem h4 f hf)
    have := (Array.getElem?_eq_some_iff.1 ho).1
    simp only [Array.getD_eq_getD_getElem?, Array.getElem?_replicate, if_pos this]; rfl
  have := wpF_sound (P := P) (Q := NoPanic Q) (w0 := w0) (L0 := L0) (es := p.earlies) h1 (fun _ _ _ h => h) l.toArray.size p fs (List.replicate fs.length none) true (Array.replicate l.toArray.size false) a w.drew L
    ⟨hc0, h2, h4, h5, hsz, by simp, fun _ => rfl, fun _ => StW.mk' (hs.drew.arr hk), by rw [hop]; omega, h6, by rw [hnone3]; exact hs.drew⟩ (h ⟨⟨w, hs.arr hk⟩⟩)
  rw [hnone, hnone2] at this
  exact wpAny_of_T _ _ _ _ this
theorem wpF_done (h : ∀ w, St w0 w L → Q .normal a w) : wpF P l.toArray w0 L0 (NoPanic Q) .done a L := h
theorem wpF_land {i : Nat} {p : PlanF} {o : Oper} (ho : getL l i = some o) {T : TypeId} (hop : o.op = .alloc T) {cs : List Value} (hz : zeroCells' P T = some cs)
    (h : ∀ b, wpF P l.toArray w0 L0 (NoPanic Q) p (a.put o.dst (.pointer (some ⟨b, 0, none⟩))) (rowA b cs T :: L)) : wpF P l.toArray w0 L0 (NoPanic Q) (.land i p) a L := by
  rw [getL_eq] at ho; unfold wpF; rw [ho]
  intro T' cs' h1 h2 b
  rw [hop] at h1
  injection h1 with h1
  subst h1
  rw [hz] at h2
  obtain rfl := Option.some.inj h2
  exact h b
theorem wpF_skipE {i : Nat} {p : PlanF} {o : Oper} (ho : getL l i = some o) (hw : Region.wanted o (yielded l.toArray a.tmps) = false)
    (h : wpF P l.toArray w0 L0 (NoPanic Q) p (a.put o.dst undef) L) : wpF P l.toArray w0 L0 (NoPanic Q) (.early i p) a L := by
  rw [getL_eq] at ho; unfold wpF; rw [ho]; simp only [hw]; exact h
theorem wpF_early {i : Nat} {p : PlanF} {o : Oper} (ho : getL l i = some o) (hw : Region.wanted o (yielded l.toArray a.tmps) = true)
    (h : ∀ K : Act → Prop, (∀ a, wpF P l.toArray w0 L0 (NoPanic Q) p a L → K a) → o.quiet P a (fun w' => ∃ s : StW w0 L0, w' = s.1) K) : wpF P l.toArray w0 L0 (NoPanic Q) (.early i p) a L := by
  rw [getL_eq] at ho; unfold wpF; rw [ho]; simp only [hw, if_true]; exact h _ (fun _ h => h)
theorem wpF_skipP {i : Nat} {p : PlanF} {o : Oper} (ho : getL l i = some o) (hw : Region.wanted o (yielded l.toArray a.tmps) = false)
    (h : wpF P l.toArray w0 L0 (NoPanic Q) p (a.put o.dst undef) L) : wpF P l.toArray w0 L0 (NoPanic Q) (.pure i p) a L := by
  rw [getL_eq] at ho; unfold wpF; rw [ho]; simp only [hw]; exact h
theorem wpF_pure {i : Nat} {p : PlanF} {o : Oper} (ho : getL l i = some o) (hw : Region.wanted o (yielded l.toArray a.tmps) = true)
    (h : ∀ K : Act → Prop, (∀ a, wpF P l.toArray w0 L0 (NoPanic Q) p a L → K a) → o.quiet P a (fun _ => True) K) : wpF P l.toArray w0 L0 (NoPanic Q) (.pure i p) a L := by
  rw [getL_eq] at ho; unfold wpF; rw [ho]; simp only [hw, if_true]; exact h _ (fun _ h => h)
theorem wpF_forced {i b : Nat} {p : PlanF} (h : OneF P l.toArray w0 L0 (NoPanic Q) i b (wpF P l.toArray w0 L0 (NoPanic Q) p) a L) : wpF P l.toArray w0 L0 (NoPanic Q) (.forced i b p) a L := h
theorem oneF_skip {i b : Nat} {R : Act → List Asn → Prop} {o : Oper} (ho : getL l i = some o) (hw : Region.wanted o (yielded l.toArray a.tmps) = false) (h : R (a.put o.dst undef) L) : OneF P l.toArray w0 L0 (NoPanic Q) i b R a L := by
  rw [getL_eq] at ho; unfold OneF; rw [ho]; simp only [hw]; exact h
theorem oneF_1 {i : Nat} {R : Act → List Asn → Prop} {o : Oper} (ho : getL l i = some o) (hw : Region.wanted o (yielded l.toArray a.tmps) = true)
    (h : ∀ (w : World) (F : Asn), St w0 w (F :: L) → ∀ K : Act → World → Prop, (∀ a w L', (∃ s : StW w0 L0, w = s.1) → St w0 w (F :: L') → R a L' → K a w) → o.wp P a w K (NoPanic Q)) : OneF P l.toArray w0 L0 (NoPanic Q) i 1 R a L := by
  rw [getL_eq] at ho; unfold OneF; rw [ho]; simp only [hw, if_true]
  exact fun w F hw => h w F hw _ (fun _ _ L' h1 h2 h3 => ⟨fun _ => h1, L', h2, h3⟩)
theorem oneF_2 {i : Nat} {R : Act → List Asn → Prop} {o : Oper} (ho : getL l i = some o) (hw : Region.wanted o (yielded l.toArray a.tmps) = true)
    (h : ∀ (w : World) (F : Asn), St w0 w (F :: L) → ∀ K : Act → World → Prop, (∀ a w L', St w0 w (F :: L') → R a L' → K a w) → o.wp P a w K (NoPanic Q)) : OneF P l.toArray w0 L0 (NoPanic Q) i 2 R a L := by
  rw [getL_eq] at ho; unfold OneF; rw [ho]; simp only [hw, if_true]
  exact fun w F hw => h w F hw _ (fun _ _ L' h2 h3 => ⟨fun h => (by cases h), L', h2, h3⟩)
end
attribute [irreducible] wpF OneF
end Go
end
section
namespace Go.Proofs.YtgbjkojgjhcabaaGreat
open Go Go.RowKit
set_option linter.unusedVariables false
set_option linter.unusedSimpArgs false
set_option linter.unusedSectionVars false
theorem ag_impl_Ring : aggT Tryz.prog 30 4 := ⟨⟨_, Tryz.underlying30, rfl⟩, by kernel_rfl⟩
theorem zc_impl_Ring : zeroCells' Tryz.prog 30 = some [.int .i64 0, .int .i64 0, .int .i64 0, .int .i64 0] := by kernel_rfl
theorem sz_impl_Ring : (Tryz.prog.info? 30).map (·.size) = some 4 := by kernel_rfl
theorem ag_laws_Memory : aggT Tryz.prog 25 1 := ⟨⟨_, Tryz.underlying25, rfl⟩, by kernel_rfl⟩
theorem ag_laws_Ring : aggT Tryz.prog 27 4 := ⟨⟨_, Tryz.underlying27, rfl⟩, by kernel_rfl⟩
end Go.Proofs.YtgbjkojgjhcabaaGreat
end
section
namespace Go.Proofs.YtgbjkojgjhcabaaGreat
open Go Go.RowKit Go.Vc
set_option linter.unusedVariables false
set_option linter.unusedSimpArgs false
set_option linter.unnecessarySimpa false
theorem bAt_extract (s : ByteArray) (a b k : Nat) : bAt (s.extract a b) k = if a + k < b then bAt s (a + k) else 0 := by
  unfold bAt
  by_cases h : k < (s.extract a b).size
  · rw [dif_pos h]
    have h2 : k < min b s.size - a := by rw [ByteArray.size_extract] at h; exact h
    rw [if_pos (by omega), dif_pos (by omega), ByteArray.getElem_extract]
  · rw [dif_neg h]
    have h2 : ¬ k < min b s.size - a := by rw [ByteArray.size_extract] at h; exact h
    split
    · rw [dif_neg (by omega)]
    · rfl
theorem bAt_append (s t : ByteArray) (k : Nat) : bAt (s ++ t) k = if k < s.size then bAt s k else bAt t (k - s.size) := by
  unfold bAt
  by_cases h : k < s.size
  · rw [if_pos h, dif_pos (by rw [ByteArray.size_append]; omega), dif_pos h, ByteArray.getElem_append_left h]
  · rw [if_neg h]
    by_cases h2 : k - s.size < t.size
    · rw [dif_pos (by rw [ByteArray.size_append]; omega), dif_pos h2, ByteArray.getElem_append_right (by omega)]
    · rw [dif_neg (by rw [ByteArray.size_append]; omega), dif_neg h2]
theorem bAt_putB {s p : ByteArray} {a : Nat} (h : a + p.size ≤ s.size) (k : Nat) : bAt (putB s a p) k = if a ≤ k ∧ k < a + p.size then bAt p (k - a) else bAt s k := by
  unfold putB
  have ea : (s.extract 0 a).size = a := by rw [ByteArray.size_extract]; omega
  have eb : ∀ k, k < a → bAt (s.extract 0 a) k = bAt s k := fun k hk => by rw [bAt_extract, if_pos (by omega), Nat.zero_add]
  have ec : ∀ k, bAt (s.extract (a + p.size) s.size) k = if a + p.size + k < s.size then bAt s (a + p.size + k) else 0 := fun k => bAt_extract _ _ _ _
  generalize s.extract 0 a = u at *
  generalize s.extract (a + p.size) s.size = v at *
  have e0 : bAt (u ++ p ++ v) k = if k < a + p.size then (if k < a then bAt u k else bAt p (k - a)) else bAt v (k - (a + p.size)) := by
    rw [bAt_append, bAt_append, ByteArray.size_append, ea]
  rw [e0]
  by_cases h1 : k < a
  · have q1 : k < a + p.size := by omega
    have q2 : ¬ (a ≤ k ∧ k < a + p.size) := by omega
    rw [if_pos q1, if_pos h1, if_neg q2, eb k h1]
  · by_cases h2 : k < a + p.size
    · have q2 : a ≤ k ∧ k < a + p.size := by omega
      rw [if_pos h2, if_neg h1, if_pos q2]
    · have q2 : ¬ (a ≤ k ∧ k < a + p.size) := by omega
      rw [if_neg h2, if_neg q2, ec]
      by_cases h3 : k < s.size
      · have q3 : a + p.size + (k - (a + p.size)) = k := by omega
        rw [q3, if_pos h3]
      · have q3 : a + p.size + (k - (a + p.size)) = k := by omega
        rw [q3, if_neg h3]
        unfold bAt; rw [dif_neg h3]
structure EthX where
  (dst src vl ty : Int)
  (body : ByteArray)
structure IpX where
  (tos id ttl pr src dst : Int)
  (body : ByteArray)
structure SegX where
  (kind sp dp seq ack fl win : Int)
  (body : ByteArray)
structure Pk where
  (dm sm vl tos id ttl si di kind sp dp seq ack fl win : Int)
  (body : ByteArray)
def m6 (s : ByteArray) (i : Int) : Int := get16 s i * 4294967296 + get32 s (i + 2)
def ethX (s : ByteArray) : EthX := if get16 s 12 = 33024 ∧ 18 ≤ s.size then ⟨m6 s 0, m6 s 6, get16 s 14, get16 s 16, s.extract (Int.toNat 18) s.size⟩ else ⟨m6 s 0, m6 s 6, -1, get16 s 12, s.extract (Int.toNat 14) s.size⟩
def EthX.ok (e : EthX) : Bool := ethOkB e.dst e.src e.vl e.ty e.body.size
def ethPB (s : ByteArray) : Bool := decide (18 ≤ s.size) && (ethX s).ok
def ethPF (s : ByteArray) : EthX := if ethPB s then ethX s else ⟨0, 0, 0, 0, ⟨#[]⟩⟩
theorem ethPF_y {s : ByteArray} (h : ethPB s = true) : ethPF s = ethX s := if_pos h
theorem ethPF_n {s : ByteArray} (h : ethPB s = false) : ethPF s = ⟨0, 0, 0, 0, ⟨#[]⟩⟩ := if_neg (by rw [h]; decide)
def ipX (s : ByteArray) : IpX := ⟨bAt s 1, get16 s 4, bAt s 8, bAt s 9, get32 s 12, get32 s 16, s.extract (Int.toNat 20) (get16 s 2).toNat⟩
def IpX.ok (d : IpX) : Bool := ipOkB d.tos d.id d.ttl d.pr d.src d.dst d.body.size
def IpX.im (d : IpX) : ByteArray := ipR d.tos d.id d.ttl d.pr d.src d.dst d.body
def ipPB (s : ByteArray) : Bool := decide (20 ≤ s.size) && (decide (20 ≤ get16 s 2) && (decide (get16 s 2 ≤ s.size) && ((ipX s).ok && decide ((ipX s).im = s.extract (Int.toNat 0) (get16 s 2).toNat))))
def ipPF (s : ByteArray) : IpX := if ipPB s then ipX s else ⟨0, 0, 0, 0, 0, 0, ⟨#[]⟩⟩
theorem ipPF_y {s : ByteArray} (h : ipPB s = true) : ipPF s = ipX s := if_pos h
theorem ipPF_n {s : ByteArray} (h : ipPB s = false) : ipPF s = ⟨0, 0, 0, 0, 0, 0, ⟨#[]⟩⟩ := if_neg (by rw [h]; decide)
def segX (kind : Int) (s : ByteArray) : SegX := if kind = 6 then ⟨kind, get16 s 0, get16 s 2, get32 s 4, get32 s 8, bAt s 13, get16 s 14, s.extract (Int.toNat 20) s.size⟩ else ⟨kind, get16 s 0, get16 s 2, 0, 0, 0, 0, s.extract (Int.toNat 8) s.size⟩
def SegX.ok (src dst : Int) (g : SegX) : Bool := segC src dst g.kind g.sp g.dp g.seq g.ack g.fl g.win g.body
def SegX.im (src dst : Int) (g : SegX) : ByteArray := segR src dst g.kind g.sp g.dp g.seq g.ack g.fl g.win g.body
def segPB (src dst kind : Int) (s : ByteArray) : Bool := ((decide (kind = 6) && decide (20 ≤ s.size)) || (decide (kind = 17) && decide (8 ≤ s.size))) && ((segX kind s).ok src dst && decide ((segX kind s).im src dst = s))
def segPF (src dst kind : Int) (s : ByteArray) : SegX := if segPB src dst kind s then segX kind s else ⟨0, 0, 0, 0, 0, 0, 0, ⟨#[]⟩⟩
theorem segPF_y {src dst kind : Int} {s : ByteArray} (h : segPB src dst kind s = true) : segPF src dst kind s = segX kind s := if_pos h
theorem segPF_n {src dst kind : Int} {s : ByteArray} (h : segPB src dst kind s = false) : segPF src dst kind s = ⟨0, 0, 0, 0, 0, 0, 0, ⟨#[]⟩⟩ := if_neg (by rw [h]; decide)
def Pk.sup (p : Pk) : Bool := superOkB p.dm p.sm p.vl p.tos p.id p.ttl p.si p.di p.kind p.sp p.dp p.seq p.ack p.fl p.win p.body.size
def Pk.im (p : Pk) : ByteArray := imgR p.dm p.sm p.vl p.tos p.id p.ttl p.si p.di p.kind p.sp p.dp p.seq p.ack p.fl p.win p.body
def Pk.sc (p : Pk) : Bool := supC p.dm p.sm p.vl p.tos p.id p.ttl p.si p.di p.kind p.sp p.dp p.seq p.ack p.fl p.win p.body
def pk0 : Pk := ⟨0, 0, 0, 0, 0, 0, 0, 0, 0, 0, 0, 0, 0, 0, 0, ⟨#[]⟩⟩
def mkPk (e : EthX) (d : IpX) (g : SegX) : Pk := ⟨e.dst, e.src, e.vl, d.tos, d.id, d.ttl, d.src, d.dst, g.kind, g.sp, g.dp, g.seq, g.ack, g.fl, g.win, g.body⟩
def rdX (s : ByteArray) : Pk := mkPk (ethX s) (ipX (ethX s).body) (segX (ipX (ethX s).body).pr (ipX (ethX s).body).body)
def rdC (s : ByteArray) : Int :=
  if ethPB s = true ∧ (ethX s).ty = 2048 then
    if ipPB (ethX s).body = true then
      if segPB (ipX (ethX s).body).src (ipX (ethX s).body).dst (ipX (ethX s).body).pr (ipX (ethX s).body).body = true then
        if (rdX s).sup = true then 0 else 5
      else 4
    else 3
  else 2
def rdF (s : ByteArray) : Pk := if rdC s = 0 then rdX s else pk0
theorem rd_2 {s : ByteArray} (h : ethPB s = false ∨ ¬ (ethX s).ty = 2048) : rdF s = pk0 ∧ rdC s = 2 := by
  have : rdC s = 2 := by
    unfold rdC
    rw [if_neg]
    rintro ⟨h1, h2⟩
    rcases h with h | h
    · rw [h] at h1; cases h1
    · exact h h2
  exact ⟨by rw [rdF, this, if_neg (by decide)], this⟩
theorem rd_3 {s : ByteArray} (h1 : ethPB s = true) (h2 : (ethX s).ty = 2048) (h : ipPB (ethX s).body = false) : rdF s = pk0 ∧ rdC s = 3 := by
  have : rdC s = 3 := by
    unfold rdC
    rw [if_pos ⟨h1, h2⟩, if_neg (by rw [h]; decide)]
  exact ⟨by rw [rdF, this, if_neg (by decide)], this⟩
theorem rd_4 {s : ByteArray} (h1 : ethPB s = true) (h2 : (ethX s).ty = 2048) (h3 : ipPB (ethX s).body = true) (h : segPB (ipX (ethX s).body).src (ipX (ethX s).body).dst (ipX (ethX s).body).pr (ipX (ethX s).body).body = false) : rdF s = pk0 ∧ rdC s = 4 := by
  have : rdC s = 4 := by
    unfold rdC
    rw [if_pos ⟨h1, h2⟩, if_pos h3, if_neg (by rw [h]; decide)]
  exact ⟨by rw [rdF, this, if_neg (by decide)], this⟩
theorem rd_5 {s : ByteArray} (h1 : ethPB s = true) (h2 : (ethX s).ty = 2048) (h3 : ipPB (ethX s).body = true) (h4 : segPB (ipX (ethX s).body).src (ipX (ethX s).body).dst (ipX (ethX s).body).pr (ipX (ethX s).body).body = true) (h : (rdX s).sup = false) : rdF s = pk0 ∧ rdC s = 5 := by
  have : rdC s = 5 := by
    unfold rdC
    rw [if_pos ⟨h1, h2⟩, if_pos h3, if_pos h4, if_neg (by rw [h]; decide)]
  exact ⟨by rw [rdF, this, if_neg (by decide)], this⟩
theorem rd_0 {s : ByteArray} (h1 : ethPB s = true) (h2 : (ethX s).ty = 2048) (h3 : ipPB (ethX s).body = true) (h4 : segPB (ipX (ethX s).body).src (ipX (ethX s).body).dst (ipX (ethX s).body).pr (ipX (ethX s).body).body = true) (h : (rdX s).sup = true) : rdF s = rdX s ∧ rdC s = 0 := by
  have : rdC s = 0 := by
    unfold rdC
    rw [if_pos ⟨h1, h2⟩, if_pos h3, if_pos h4, if_pos h]
  exact ⟨by rw [rdF, this, if_pos rfl], this⟩
theorem rdC_sup {s : ByteArray} (h : rdC s = 0) : (rdF s).sup = true := by
  rw [rdF, if_pos h]
  unfold rdC at h
  split at h
  · split at h
    · split at h
      · split at h
        · assumption
        · omega
      · omega
    · omega
  · omega
theorem ethX_body (s : ByteArray) : (ethX s).body.size ≤ s.size := by
  unfold ethX
  split <;> (simp only [ByteArray.size_extract]; omega)
theorem ipX_body (s : ByteArray) : (ipX s).body.size ≤ s.size := by
  unfold ipX
  simp only [ByteArray.size_extract]; omega
theorem segX_body (k : Int) (s : ByteArray) : (segX k s).body.size ≤ s.size := by
  unfold segX
  split <;> (simp only [ByteArray.size_extract]; omega)
theorem i64_or_big (a b i : Nat) (h : b < 2 ^ i) (ha : a * 2 ^ i + b < 4611686018427387904) : Go.bits .or .i64 ((a * 2 ^ i : Nat) : Int) (b : Int) = ((a * 2 ^ i + b : Nat) : Int) := by
  have e : ∀ n : Nat, n < 4611686018427387904 → (BitVec.ofInt 64 (n : Int)).toNat = n := fun n hn => by
    rw [BitVec.ofInt_natCast, BitVec.toNat_ofNat]; exact Nat.mod_eq_of_lt (by omega)
  show IntKind.i64.wrap ((BitVec.ofInt 64 ((a * 2 ^ i : Nat) : Int) ||| BitVec.ofInt 64 (b : Int)).toNat : Int) = _
  rw [BitVec.toNat_or, e _ (by omega), e _ (by omega), or_add _ _ _ h, IntKind.wrap_i64]
  generalize a * 2 ^ i = c at *
  omega
theorem m6_sh {a b : Int} (h0 : 0 ≤ a ∧ a ≤ 65535) (h1 : 0 ≤ b ∧ b ≤ 4294967295) : orI (IntKind.i64.wrap (a * 2 ^ Int.toNat 32)) b = a * 4294967296 + b := by
  obtain ⟨x, rfl⟩ := Int.eq_ofNat_of_zero_le h0.1
  obtain ⟨y, rfl⟩ := Int.eq_ofNat_of_zero_le h1.1
  have e1 : (2 : Int) ^ Int.toNat 32 = 4294967296 := by decide
  rw [e1, IntWalk.i64_in _ (by omega), orI_eq, show ((x : Int) * 4294967296) = ((x * 2 ^ 32 : Nat) : Int) by omega]
  rw [i64_or_big x y 32 (by omega) (by omega)]
  omega
theorem m6_ad {a b : Int} (h0 : 0 ≤ a ∧ a ≤ 65535) (h1 : 0 ≤ b ∧ b ≤ 4294967295) : wr (IntKind.i64.wrap (a * 2 ^ Int.toNat 32) + b) = a * 4294967296 + b := by
  have e1 : (2 : Int) ^ Int.toNat 32 = 4294967296 := by decide
  rw [e1, IntWalk.i64_in _ (by omega), wr_id (by omega) (by omega)]
theorem get16_in {s : ByteArray} {i : Int} (h0 : 0 ≤ i) (h : i + 2 ≤ s.size) : 0 ≤ get16 s i ∧ get16 s i ≤ 65535 := by
  have := get16_bd s i
  rw [get16, if_pos ⟨h0, h⟩] at *
  omega
theorem get32_in {s : ByteArray} {i : Int} (h0 : 0 ≤ i) (h : i + 4 ≤ s.size) : 0 ≤ get32 s i ∧ get32 s i ≤ 4294967295 := by
  have := get32_bd s i
  rw [get32, if_pos ⟨h0, h⟩] at *
  omega
end Go.Proofs.YtgbjkojgjhcabaaGreat
end
section
namespace Go.Proofs.YtgbjkojgjhcabaaGreat
open Go Go.RowKit Go.Vc
set_option linter.unusedVariables false
set_option linter.unusedSimpArgs false
set_option linter.unnecessarySimpa false
def sumsA (s : ByteArray) : Int := if get16 s 12 = 33024 then 18 else 14
def sumsK (s : ByteArray) : Int := bAt s (sumsA s + 9).toNat
def sumsB (s : ByteArray) : Int := sumsA s + 20 + sumPl (sumsK s)
theorem sumsA_bd (s : ByteArray) : sumsA s = 14 ∨ sumsA s = 18 := by unfold sumsA; split <;> simp
theorem sumsB_bd (s : ByteArray) : sumsB s = sumsA s + 26 ∨ sumsB s = sumsA s + 36 := by unfold sumsB sumPl; split <;> omega
def Pk.tm (p : Pk) : ByteArray := if p.sup then putBF (putBF p.im (sumsA p.im + 10) (word16 0)) (sumsB p.im) (word16 0) else ⟨#[]⟩
theorem get16_at {s : ByteArray} {i : Nat} (h : i + 2 ≤ s.size) : get16 s (i : Int) = ((bAt s i * 256 + bAt s (i + 1) : Nat) : Int) := by
  rw [get16, if_pos (by omega), Int.toNat_natCast]
theorem putBF_at {s p : ByteArray} {i : Nat} (h : i + p.size ≤ s.size) (k : Nat) : bAt (putBF s (i : Int) p) k = if i ≤ k ∧ k < i + p.size then bAt p (k - i) else bAt s k := by
  rw [Go.Proofs.YtgbjkojgjhcabaaGreat.putBF_in h, bAt_putB h]
theorem mac_sz {a : Int} (h : inB a 0 281474976710655 = true) : (macF a).size = 6 := by
  have h1 := inB_iff.1 h
  unfold macF
  rw [ByteArray.size_append, word16_size (inB_iff.2 (by omega)), word32_size (inB_iff.2 (by omega))]
theorem bAt_lit {xs : List Int} {i : Nat} (h : i < xs.length) : bAt (strOfNums xs) i = xs[i].toNat % 256 := by
  unfold bAt
  rw [dif_pos (by rw [strOfNums_size]; exact h)]
  simp only [strOfNums, ByteArray.getElem_eq_getElem_data, List.getElem_toArray, List.getElem_map]
  rfl
theorem w16_at {v : Int} (h : inB v 0 65535 = true) : ((bAt (word16 v) 0 * 256 + bAt (word16 v) 1 : Nat) : Int) = v := by
  have h1 := inB_iff.1 h
  rw [show word16 v = strOfNums [v / 256, v % 256] by unfold word16; rw [if_pos h], bAt_lit (i := 0) (by simp), bAt_lit (i := 1) (by simp)]
  simp only [List.getElem_cons_zero, List.getElem_cons_succ]
  omega
theorem get16_mid {a r : ByteArray} {v : Int} (h : inB v 0 65535 = true) {i : Nat} (hi : i = a.size) : get16 (a ++ word16 v ++ r) (i : Int) = v := by
  subst hi
  have hs := word16_size h
  rw [get16_at (by rw [ByteArray.size_append, ByteArray.size_append, hs]; omega)]
  rw [bAt_append, if_pos (by rw [ByteArray.size_append, hs]; omega), bAt_append a, if_neg (by omega), Nat.sub_self]
  rw [bAt_append, if_pos (by rw [ByteArray.size_append, hs]; omega), bAt_append a, if_neg (by omega), show a.size + 1 - a.size = 1 by omega]
  exact w16_at h
theorem img_lay {p : Pk} (h : p.sup = true) : 46 + sumsA p.im ≤ p.im.size ∧ p.im.size ≤ 400 + sumsA p.im ∧ inB p.vl (-1) 4095 = true ∧ ((get16 p.im 12 = 33024 ∧ get16 p.im 14 = p.vl ∧ get16 p.im 16 = 2048) ∨ get16 p.im 12 = 2048) := by
  obtain ⟨h1, h2, h3, h4, h5, h6, h7, h8, h9, h10⟩ := superOk_facts h
  have e := (sup_img h).1
  unfold supC at e
  rw [Bool.and_eq_true] at e
  have e2 := e.2
  have hi : p.im = ethF p.dm p.sm p.vl 2048 (padF (ipR p.tos p.id p.ttl p.kind p.si p.di (segR p.si p.di p.kind p.sp p.dp p.seq p.ack p.fl p.win p.body))) := by
    unfold Pk.im imgR
    rw [if_pos (show superOkB _ _ _ _ _ _ _ _ _ _ _ _ _ _ _ _ = true from h), ethR, if_pos e2]
  have hb : inB ((padF (ipR p.tos p.id p.ttl p.kind p.si p.di (segR p.si p.di p.kind p.sp p.dp p.seq p.ack p.fl p.win p.body))).size : Int) 46 400 = true := by
    unfold ethOkB at e2
    simp only [Bool.and_eq_true] at e2
    exact e2.2
  generalize padF (ipR p.tos p.id p.ttl p.kind p.si p.di (segR p.si p.di p.kind p.sp p.dp p.seq p.ack p.fl p.win p.body)) = b at *
  have hb2 := inB_iff.1 hb
  have m1 := mac_sz h1
  have m2 := mac_sz h2
  have w1 : (word16 33024).size = 2 := rfl
  have w2 : (word16 2048).size = 2 := rfl
  have hv := inB_iff.1 h3
  rw [hi]
  unfold ethF
  by_cases hv0 : 0 ≤ p.vl
  · rw [if_pos hv0]
    have w3 : (word16 p.vl).size = 2 := word16_size (inB_iff.2 (by omega))
    have q1 : get16 (macF p.dm ++ macF p.sm ++ (word16 33024 ++ word16 p.vl) ++ word16 2048 ++ b) ((12 : Nat) : Int) = 33024 := by
      rw [show macF p.dm ++ macF p.sm ++ (word16 33024 ++ word16 p.vl) ++ word16 2048 ++ b = macF p.dm ++ macF p.sm ++ word16 33024 ++ (word16 p.vl ++ (word16 2048 ++ b)) by simp only [ByteArray.append_assoc]]
      exact get16_mid (by decide) (by rw [ByteArray.size_append, m1, m2])
    have q2 : get16 (macF p.dm ++ macF p.sm ++ (word16 33024 ++ word16 p.vl) ++ word16 2048 ++ b) ((14 : Nat) : Int) = p.vl := by
      rw [show macF p.dm ++ macF p.sm ++ (word16 33024 ++ word16 p.vl) ++ word16 2048 ++ b = (macF p.dm ++ macF p.sm ++ word16 33024) ++ word16 p.vl ++ (word16 2048 ++ b) by simp only [ByteArray.append_assoc]]
      exact get16_mid (inB_iff.2 (by omega)) (by simp only [ByteArray.size_append, m1, m2, w1])
    have q3 : get16 (macF p.dm ++ macF p.sm ++ (word16 33024 ++ word16 p.vl) ++ word16 2048 ++ b) ((16 : Nat) : Int) = 2048 := by
      rw [show macF p.dm ++ macF p.sm ++ (word16 33024 ++ word16 p.vl) ++ word16 2048 ++ b = (macF p.dm ++ macF p.sm ++ (word16 33024 ++ word16 p.vl)) ++ word16 2048 ++ b by simp only [ByteArray.append_assoc]]
      exact get16_mid (by decide) (by simp only [ByteArray.size_append, m1, m2, w1, w3])
    have hz : (macF p.dm ++ macF p.sm ++ (word16 33024 ++ word16 p.vl) ++ word16 2048 ++ b).size = 18 + b.size := by
      simp only [ByteArray.size_append, m1, m2, w1, w2, w3]
    have ha : sumsA (macF p.dm ++ macF p.sm ++ (word16 33024 ++ word16 p.vl) ++ word16 2048 ++ b) = 18 := by unfold sumsA; exact if_pos q1
    exact ⟨by omega, by omega, h3, .inl ⟨q1, q2, q3⟩⟩
  · rw [if_neg hv0]
    have q1 : get16 (macF p.dm ++ macF p.sm ++ word16 2048 ++ b) ((12 : Nat) : Int) = 2048 := get16_mid (by decide) (by rw [ByteArray.size_append, m1, m2])
    have hz : (macF p.dm ++ macF p.sm ++ word16 2048 ++ b).size = 14 + b.size := by
      simp only [ByteArray.size_append, m1, m2, w2]
    have ha : sumsA (macF p.dm ++ macF p.sm ++ word16 2048 ++ b) = 14 := by unfold sumsA; refine if_neg ?_; rw [show (12 : Int) = ((12 : Nat) : Int) from rfl, q1]; decide
    exact ⟨by omega, by omega, h3, .inr q1⟩
theorem get16_put {s p : ByteArray} {i j : Nat} (h : i + p.size ≤ s.size) (hj : j + 2 ≤ i ∨ i + p.size ≤ j) : get16 (putBF s (i : Int) p) (j : Int) = get16 s (j : Int) := by
  have hz := putBF_size s (i : Int) p
  by_cases hs : j + 2 ≤ s.size
  · rw [get16_at (by omega), get16_at hs, putBF_at h, if_neg (by omega), putBF_at h, if_neg (by omega)]
  · rw [get16, if_neg (by omega), get16, if_neg (by omega)]
theorem get16_here {s : ByteArray} {i : Nat} {v : Int} (hv : inB v 0 65535 = true) (h : i + 2 ≤ s.size) : get16 (putBF s (i : Int) (word16 v)) (i : Int) = v := by
  have hz := putBF_size s (i : Int) (word16 v)
  have hw := word16_size hv
  rw [get16_at (by omega), putBF_at (by omega), if_pos (by omega), putBF_at (by omega), if_pos (by omega), Nat.sub_self, show i + 1 - i = 1 by omega]
  exact w16_at hv
theorem tm_facts {p : Pk} (h : p.sup = true) {t : ByteArray} (ht : p.tm = t) : t.size = p.im.size ∧ sumsA t = sumsA p.im ∧ sumsB t = sumsB p.im ∧ get16 t (sumsA t + 10) = 0 ∧ get16 t (sumsB t) = 0 ∧ ethPB t = true := by
  obtain ⟨l1, l2, l3, l4⟩ := img_lay h
  unfold Pk.tm at ht
  rw [if_pos h] at ht
  have w0 : (word16 0).size = 2 := rfl
  have ha := sumsA_bd p.im
  have hb := sumsB_bd p.im
  obtain ⟨A, hA⟩ := Int.eq_ofNat_of_zero_le (show 0 ≤ sumsA p.im + 10 by omega)
  obtain ⟨B, hB⟩ := Int.eq_ofNat_of_zero_le (show 0 ≤ sumsB p.im by omega)
  rw [hA, hB] at ht
  have z1 := putBF_size p.im (A : Int) (word16 0)
  have z2 := putBF_size (putBF p.im (A : Int) (word16 0)) (B : Int) (word16 0)
  rw [ht] at z2
  have hg : ∀ j : Nat, j + 2 ≤ A → get16 t (j : Int) = get16 p.im (j : Int) := fun j hj => by
    rw [← ht, get16_put (by omega) (by omega), get16_put (by omega) (by omega)]
  have g12 : get16 t 12 = get16 p.im 12 := hg 12 (by omega)
  have eA : sumsA t = sumsA p.im := by unfold sumsA; rw [g12]
  have eK : sumsK t = sumsK p.im := by
    unfold sumsK
    rw [eA, ← ht, putBF_at (by omega), if_neg (by omega), putBF_at (by omega), if_neg (by omega)]
  have eB : sumsB t = sumsB p.im := by unfold sumsB; rw [eA, eK]
  have zB : get16 t (B : Int) = 0 := by rw [← ht]; exact get16_here (by decide) (by omega)
  have zA : get16 t (A : Int) = 0 := by rw [← ht, get16_put (by omega) (by omega)]; exact get16_here (by decide) (by omega)
  refine ⟨by omega, eA, eB, by rw [eA, hA]; exact zA, by rw [eB, hB]; exact zB, ?_⟩
  have hs : t.size = p.im.size := by omega
  have hvl := inB_iff.1 l3
  have k0 := get16_in (s := t) (i := 0) (by omega) (by omega)
  have k1 := get32_in (s := t) (i := 2) (by omega) (by omega)
  have k2 := get16_in (s := t) (i := 6) (by omega) (by omega)
  have k3 := get32_in (s := t) (i := 8) (by omega) (by omega)
  have i0 : inB (m6 t 0) 0 281474976710655 = true := inB_iff.2 (by unfold m6; simp only [Int.zero_add]; omega)
  have i1 : inB (m6 t 6) 0 281474976710655 = true := inB_iff.2 (by unfold m6; rw [show (6 : Int) + 2 = 8 from rfl]; omega)
  unfold ethPB EthX.ok ethX
  rw [decide_eq_true (show 18 ≤ t.size by omega), Bool.true_and]
  rcases l4 with ⟨q1, q2, q3⟩ | q1
  · have hA2 : sumsA p.im = 18 := by unfold sumsA; rw [if_pos q1]
    rw [if_pos ⟨by rw [g12, q1], by omega⟩]
    simp only
    rw [show get16 t 14 = p.vl from (hg 14 (by omega)).trans q2, show get16 t 16 = 2048 from (hg 16 (by omega)).trans q3]
    unfold ethOkB
    rw [i0, i1, l3, inB_iff.2 (show (1536 : Int) ≤ 2048 ∧ (2048 : Int) ≤ 65535 by omega), inB_iff.2 (by rw [ByteArray.size_extract]; have : Int.toNat 18 = 18 := rfl; omega)]
    decide
  · have hA2 : sumsA p.im = 14 := by unfold sumsA; rw [if_neg (by rw [q1]; decide)]
    rw [if_neg (by rw [g12, q1]; omega)]
    simp only
    rw [g12, q1]
    unfold ethOkB
    rw [i0, i1, inB_iff.2 (show (-1 : Int) ≤ -1 ∧ (-1 : Int) ≤ 4095 by omega), inB_iff.2 (show (1536 : Int) ≤ 2048 ∧ (2048 : Int) ≤ 65535 by omega), inB_iff.2 (by rw [ByteArray.size_extract]; have : Int.toNat 14 = 14 := rfl; omega)]
    decide
def fsN (t : ByteArray) : Int := get16 t (sumsA t + 2)
def fsC (t : ByteArray) : Int := checkF (psF (get32 t (sumsA t + 12)) (get32 t (sumsA t + 16)) (sumsK t) (fsN t - 20) ++ t.extract (sumsA t + 20).toNat (sumsA t + fsN t).toNat)
def fsY (t : ByteArray) : Int := if sumsK t = 17 ∧ fsC t = 0 then 65535 else fsC t
def fsS (t : ByteArray) : ByteArray := putBF (putBF t (sumsA t + 10) (word16 (checkF (t.extract (sumsA t).toNat (sumsA t + 20).toNat)))) (sumsB t) (word16 (fsY t))
def fsOk (t : ByteArray) : Bool := decide (sumsA t + 46 ≤ t.size) && (decide (sumsB t + 2 - sumsA t ≤ fsN t) && decide (fsN t ≤ t.size - sumsA t))
def fsB (t : ByteArray) : Bool := fsOk t && (decide (rdC (fsS t) = 0) && decide ((rdF (fsS t)).tm = t))
def fsF (t : ByteArray) : ByteArray := if fsB t then (rdF (fsS t)).im else ⟨#[]⟩
theorem fs_no {t : ByteArray} (h : fsB t = false) : fsF t = ⟨#[]⟩ ∧ fsB t = false := ⟨if_neg (by rw [h]; decide), h⟩
theorem fs_yes {t : ByteArray} (h1 : fsOk t = true) (h2 : rdC (fsS t) = 0) (h3 : (rdF (fsS t)).tm = t) : fsF t = (rdF (fsS t)).im ∧ fsB t = true := by
  have : fsB t = true := by unfold fsB; rw [h1, decide_eq_true h2, decide_eq_true h3]; rfl
  exact ⟨if_pos this, this⟩
theorem fs_facts {t : ByteArray} (h : fsB t = true) : fsOk t = true ∧ rdC (fsS t) = 0 ∧ (rdF (fsS t)).tm = t ∧ get16 t (sumsA t + 10) = 0 ∧ get16 t (sumsB t) = 0 ∧ ethPB t = true := by
  unfold fsB at h
  simp only [Bool.and_eq_true, decide_eq_true_eq] at h
  obtain ⟨h1, h2, h3⟩ := h
  obtain ⟨_, _, _, q1, q2, q3⟩ := tm_facts (rdC_sup h2) h3
  exact ⟨h1, h2, h3, q1, q2, q3⟩
end Go.Proofs.YtgbjkojgjhcabaaGreat
end
section
namespace Go.Proofs.YtgbjkojgjhcabaaGreat
open Go Go.RowKit Go.Vc
set_option linter.unusedVariables false
set_option linter.unusedSimpArgs false
set_option linter.unnecessarySimpa false
theorem eth_sz {s : ByteArray} (h : (ethX s).ok = true) : 18 ≤ s.size := by
  have h2 : inB ((ethX s).body.size : Int) 46 400 = true := by
    unfold EthX.ok ethOkB at h
    simp only [Bool.and_eq_true] at h
    exact h.2
  have := inB_iff.1 h2
  have := ethX_body s
  omega
theorem eth_n {s : ByteArray} {e : EthX} (hx : ethX s = e) (h : s.size < 18 ∨ e.ok = false) : ethPF s = ⟨0, 0, 0, 0, ⟨#[]⟩⟩ ∧ ethPB s = false := by
  have hb : ethPB s = false := by
    unfold ethPB
    rcases h with h | h
    · rw [decide_eq_false (by omega)]; rfl
    · rw [hx, h, Bool.and_false]
  exact ⟨ethPF_n hb, hb⟩
theorem eth_y {s : ByteArray} {e : EthX} (hx : ethX s = e) (h : e.ok = true) : ethPF s = e ∧ ethPB s = true := by
  have hb : ethPB s = true := by
    have := eth_sz (hx ▸ h)
    unfold ethPB
    rw [decide_eq_true this, hx, h]; rfl
  exact ⟨(ethPF_y hb).trans hx, hb⟩
theorem ip_n {s : ByteArray} (h : s.size < 20 ∨ get16 s 2 < 20 ∨ (s.size : Int) < get16 s 2 ∨ (ipX s).ok = false ∨ ¬ (ipX s).im = s.extract (Int.toNat 0) (get16 s 2).toNat) : ipPF s = ⟨0, 0, 0, 0, 0, 0, ⟨#[]⟩⟩ ∧ ipPB s = false := by
  have hb : ipPB s = false := by
    unfold ipPB
    rcases h with h | h | h | h | h
    · rw [decide_eq_false (by omega)]; rfl
    · rw [decide_eq_false (p := 20 ≤ get16 s 2) (by omega)]; simp
    · rw [decide_eq_false (p := get16 s 2 ≤ s.size) (by omega)]; simp
    · rw [h]; simp
    · rw [decide_eq_false h]; simp
  exact ⟨ipPF_n hb, hb⟩
theorem ip_y {s : ByteArray} (h1 : 20 ≤ s.size) (h2 : 20 ≤ get16 s 2) (h3 : get16 s 2 ≤ s.size) (h4 : (ipX s).ok = true) (h5 : (ipX s).im = s.extract (Int.toNat 0) (get16 s 2).toNat) : ipPF s = ipX s ∧ ipPB s = true := by
  have hb : ipPB s = true := by
    unfold ipPB
    rw [decide_eq_true h1, decide_eq_true h2, decide_eq_true h3, h4, decide_eq_true h5]; rfl
  exact ⟨ipPF_y hb, hb⟩
theorem seg_n0 {src dst kind : Int} {s : ByteArray} (h1 : ¬ (kind = 6 ∧ 20 ≤ s.size)) (h2 : ¬ (kind = 17 ∧ 8 ≤ s.size)) : segPF src dst kind s = ⟨0, 0, 0, 0, 0, 0, 0, ⟨#[]⟩⟩ ∧ segPB src dst kind s = false := by
  have hb : segPB src dst kind s = false := by
    unfold segPB
    have e1 : (decide (kind = 6) && decide (20 ≤ s.size)) = false := by rw [← Bool.decide_and]; exact decide_eq_false h1
    have e2 : (decide (kind = 17) && decide (8 ≤ s.size)) = false := by rw [← Bool.decide_and]; exact decide_eq_false h2
    rw [e1, e2]; rfl
  exact ⟨segPF_n hb, hb⟩
theorem seg_nx {src dst kind : Int} {s : ByteArray} {g : SegX} (hx : segX kind s = g) (h : g.ok src dst = false ∨ ¬ g.im src dst = s) : segPF src dst kind s = ⟨0, 0, 0, 0, 0, 0, 0, ⟨#[]⟩⟩ ∧ segPB src dst kind s = false := by
  have hb : segPB src dst kind s = false := by
    unfold segPB
    rw [hx]
    rcases h with h | h
    · rw [h]; simp
    · rw [decide_eq_false h]; simp
  exact ⟨segPF_n hb, hb⟩
theorem seg_yx {src dst kind : Int} {s : ByteArray} {g : SegX} (hx : segX kind s = g) (hk : (kind = 6 ∧ 20 ≤ s.size) ∨ (kind = 17 ∧ 8 ≤ s.size)) (h1 : g.ok src dst = true) (h2 : g.im src dst = s) : segPF src dst kind s = g ∧ segPB src dst kind s = true := by
  have hb : segPB src dst kind s = true := by
    unfold segPB
    rw [hx, h1, decide_eq_true h2]
    rcases hk with ⟨a, b⟩ | ⟨a, b⟩ <;> rw [decide_eq_true a, decide_eq_true b] <;> simp
  exact ⟨(segPF_y hb).trans hx, hb⟩
set_option maxHeartbeats 4000000 in
theorem c_impl_ParseEth {s : ByteArray} (hs_s : s.size ≤ 1099511627776 := by first | assumption | omega | (simp only [ByteArray.size_append, ByteArray.size_extract, strOfNums_size, List.length_cons, List.length_nil]; omega)) : Con0 Tryz.prog 123 [Z s] (.tup [.agg [V (ethPF s).dst, V (ethPF s).src, V (ethPF s).vl, V (ethPF s).ty, VS (ethPF s).body], B (ethPB s)]) [] := by
  refine con_i Tryz.func123 Tryz.ntmps123 (t := [(0, Z s)]) rfl ?_
  refine vc_sr ?_
  iterate 2 refine vo ?_
  refine vnt ?_
  refine vc_seq' ?_
  refine vc_sr ?_
  iterate 3 refine vo ?_
  refine vnt ?_
  refine vc_if (fun g1 => ?_) (fun g1 => ?_)
  · refine vc_sr ?_
    iterate 3 refine vo ?_
    refine vnt ?_
    refine vc_ret ?_
    refine thn_r ?_
    refine fin_i [] rfl (fz ?_) trivial
    have hh := eth_n (s := s) rfl (.inl (by omega))
    rw [hh.1, hh.2]
    trivial
  · have k0 := get16_in (s := s) (i := 0) (by omega) (by omega)
    have k1 := get32_in (s := s) (i := 2) (by omega) (by omega)
    have k2 := get16_in (s := s) (i := 6) (by omega) (by omega)
    have k3 := get32_in (s := s) (i := 8) (by omega) (by omega)
    refine vc_skip ?_
    refine thn ?_
    refine vc_sr ?_
    refine vo ?_
    refine voc c_impl_Get16 rfl rfl ?_
    iterate 2 refine vo ?_
    refine voc c_impl_Get32 rfl rfl ?_
    refine vo ?_
    refine veq (m6_sh k0 k1) ?_
    refine vo ?_
    refine voc c_impl_Get16 rfl rfl ?_
    iterate 2 refine vo ?_
    refine voc c_impl_Get32 rfl rfl ?_
    refine vo ?_
    refine veq (m6_sh k2 k3) ?_
    refine vo ?_
    refine voc c_impl_Get16 rfl rfl ?_
    iterate 2 refine vo ?_
    try first | refine vdr ?_ | refine vtk ?_
    iterate 3 refine vo ?_
    refine vnt ?_
    refine vc_seq' ?_
    refine vc_sr ?_
    iterate 4 refine vo ?_
    refine vsp (fun g2 => ?_) (fun g2 => ?_)
    · iterate 3 refine von ?_
      refine vo ?_
      refine vnt ?_
      refine vc_if (fun g3 => ?_) (fun g3 => ?_)
      · refine vc_sr ?_
        refine vo ?_
        refine voc c_impl_Get16 rfl rfl ?_
        iterate 2 refine vo ?_
        refine vnt ?_
        refine vc_sr ?_
        refine vo ?_
        refine voc c_impl_Get16 rfl rfl ?_
        iterate 2 refine vo ?_
        refine vnt ?_
        refine vc_region ?_
        iterate 2 refine vo ?_
        try first | refine vdr ?_ | refine vtk ?_
        iterate 2 refine vo ?_
        refine vnt ?_
        refine vc_seq' ?_
        refine vc_sr ?_
        refine vo ?_
        refine voc c_impl_EthOk rfl rfl ?_
        refine vo ?_
        refine vnt ?_
        refine vc_if (fun g4 => ?_) (fun g4 => ?_)
        · refine vc_sr ?_
          iterate 3 refine vo ?_
          refine vnt ?_
          refine vc_ret ?_
          refine thn_r ?_
          refine fin_i [] rfl (fz ?_) trivial
          have hx : ethX s = ⟨m6 s 0, m6 s 6, get16 s 14, get16 s 16, s.extract (Int.toNat 18) s.size⟩ := if_pos ⟨by omega, by omega⟩
          have hh := eth_n hx (.inr g4)
          rw [hh.1, hh.2]
          trivial
        · refine vc_skip ?_
          refine thn ?_
          refine vc_sr ?_
          iterate 3 refine vo ?_
          refine vnt ?_
          refine vc_ret ?_
          refine fin_i [] rfl (fz ?_) trivial
          have hx : ethX s = ⟨m6 s 0, m6 s 6, get16 s 14, get16 s 16, s.extract (Int.toNat 18) s.size⟩ := if_pos ⟨by omega, by omega⟩
          have hh := eth_y hx g4
          rw [hh.1, hh.2]
          first | trivial | (repeat' (refine And.intro ?_ ?_)) <;> first | rfl | trivial | omega | simp [m6]
      · refine vc_skip ?_
        refine thn ?_
        refine vc_seq' ?_
        refine vc_sr ?_
        refine vo ?_
        refine voc c_impl_EthOk rfl rfl ?_
        refine vo ?_
        refine vnt ?_
        refine vc_if (fun g5 => ?_) (fun g5 => ?_)
        · refine vc_sr ?_
          iterate 3 refine vo ?_
          refine vnt ?_
          refine vc_ret ?_
          refine thn_r ?_
          refine fin_i [] rfl (fz ?_) trivial
          have hx : ethX s = ⟨m6 s 0, m6 s 6, -1, get16 s 12, s.extract (Int.toNat 14) s.size⟩ := if_neg (by omega)
          have hh := eth_n hx (.inr g5)
          rw [hh.1, hh.2]
          trivial
        · refine vc_skip ?_
          refine thn ?_
          refine vc_sr ?_
          iterate 3 refine vo ?_
          refine vnt ?_
          refine vc_ret ?_
          refine fin_i [] rfl (fz ?_) trivial
          have hx : ethX s = ⟨m6 s 0, m6 s 6, -1, get16 s 12, s.extract (Int.toNat 14) s.size⟩ := if_neg (by omega)
          have hh := eth_y hx g5
          rw [hh.1, hh.2]
          first | trivial | (repeat' (refine And.intro ?_ ?_)) <;> first | rfl | trivial | omega | simp [m6]
    · iterate 3 refine vof ?_
      refine vo ?_
      refine vnt ?_
      refine vc_else ?_
      refine vc_skip ?_
      refine thn ?_
      refine vc_seq' ?_
      refine vc_sr ?_
      refine vo ?_
      refine voc c_impl_EthOk rfl rfl ?_
      refine vo ?_
      refine vnt ?_
      refine vc_if (fun g6 => ?_) (fun g6 => ?_)
      · refine vc_sr ?_
        iterate 3 refine vo ?_
        refine vnt ?_
        refine vc_ret ?_
        refine thn_r ?_
        refine fin_i [] rfl (fz ?_) trivial
        have hx : ethX s = ⟨m6 s 0, m6 s 6, -1, get16 s 12, s.extract (Int.toNat 14) s.size⟩ := if_neg (by omega)
        have hh := eth_n hx (.inr g6)
        rw [hh.1, hh.2]
        trivial
      · refine vc_skip ?_
        refine thn ?_
        refine vc_sr ?_
        iterate 3 refine vo ?_
        refine vnt ?_
        refine vc_ret ?_
        refine fin_i [] rfl (fz ?_) trivial
        have hx : ethX s = ⟨m6 s 0, m6 s 6, -1, get16 s 12, s.extract (Int.toNat 14) s.size⟩ := if_neg (by omega)
        have hh := eth_y hx g6
        rw [hh.1, hh.2]
        first | trivial | (repeat' (refine And.intro ?_ ?_)) <;> first | rfl | trivial | omega | simp [m6]
set_option maxHeartbeats 4000000 in
theorem c_impl_ParseIp {s : ByteArray} (hs_s : s.size ≤ 1099511627776 := by first | assumption | omega | (simp only [ByteArray.size_append, ByteArray.size_extract, strOfNums_size, List.length_cons, List.length_nil]; omega)) : Con0 Tryz.prog 134 [Z s] (.tup [.agg [V (ipPF s).tos, V (ipPF s).id, V (ipPF s).ttl, V (ipPF s).pr, V (ipPF s).src, V (ipPF s).dst, VS (ipPF s).body], B (ipPB s)]) [] := by
  refine con_i Tryz.func134 Tryz.ntmps134 (t := [(0, Z s)]) rfl ?_
  refine vc_sr ?_
  iterate 2 refine vo ?_
  refine vnt ?_
  refine vc_sr ?_
  refine vo ?_
  refine voc c_impl_Get16 rfl rfl ?_
  refine vo ?_
  refine vnt ?_
  refine vc_seq' ?_
  refine vc_sr ?_
  iterate 4 refine vo ?_
  refine vsp (fun g1 => ?_) (fun g1 => ?_)
  · iterate 2 refine vof ?_
    iterate 2 refine vo ?_
    iterate 4 refine vof ?_
    refine vo ?_
    refine vnt ?_
    refine vc_then ?_
    refine vc_sr ?_
    iterate 3 refine vo ?_
    refine vnt ?_
    refine vc_ret ?_
    refine thn_r ?_
    refine fin_i [] rfl (fz ?_) trivial
    have hh := ip_n (s := s) (.inl (by omega))
    rw [hh.1, hh.2]
    trivial
  · iterate 2 refine von ?_
    iterate 2 refine vo ?_
    refine vsp (fun g2 => ?_) (fun g2 => ?_)
    · iterate 4 refine vof ?_
      refine vo ?_
      refine vnt ?_
      refine vc_then ?_
      refine vc_sr ?_
      iterate 3 refine vo ?_
      refine vnt ?_
      refine vc_ret ?_
      refine thn_r ?_
      refine fin_i [] rfl (fz ?_) trivial
      have hh := ip_n (s := s) (.inr (.inl (by omega)))
      rw [hh.1, hh.2]
      trivial
    · iterate 4 refine von ?_
      refine vo ?_
      refine vnt ?_
      refine vc_if (fun g3 => ?_) (fun g3 => ?_)
      · refine vc_sr ?_
        iterate 3 refine vo ?_
        refine vnt ?_
        refine vc_ret ?_
        refine thn_r ?_
        refine fin_i [] rfl (fz ?_) trivial
        have hh := ip_n (s := s) (.inr (.inr (.inl (by omega))))
        rw [hh.1, hh.2]
        trivial
      · refine vc_skip ?_
        refine thn ?_
        refine vc_sr ?_
        iterate 3 refine vo ?_
        try refine veq (i64_byt _ _) ?_
        refine vo ?_
        refine voc c_impl_Get16 rfl rfl ?_
        iterate 3 refine vo ?_
        try refine veq (i64_byt _ _) ?_
        iterate 3 refine vo ?_
        try refine veq (i64_byt _ _) ?_
        refine vo ?_
        refine voc c_impl_Get32 rfl rfl ?_
        refine vo ?_
        refine voc c_impl_Get32 rfl rfl ?_
        iterate 3 refine vo ?_
        try first | refine vdr ?_ | refine vtk ?_
        iterate 3 refine vo ?_
        refine vnt ?_
        refine vc_sr ?_
        refine vo ?_
        refine voc c_impl_BuildIp rfl rfl ?_
        iterate 5 refine vo ?_
        refine vnt ?_
        refine vc_seq' ?_
        refine vc_sr ?_
        iterate 3 refine vo ?_
        refine vsp (fun g4 => ?_) (fun g4 => ?_)
        · iterate 5 refine vof ?_
          refine vo ?_
          refine vnt ?_
          refine vc_then ?_
          refine vc_sr ?_
          iterate 3 refine vo ?_
          refine vnt ?_
          refine vc_ret ?_
          refine thn_r ?_
          refine fin_i [] rfl (fz ?_) trivial
          have hh := ip_n (s := s) (.inr (.inr (.inr (.inl g4))))
          rw [hh.1, hh.2]
          trivial
        · iterate 4 refine von ?_
          try first | refine vdr ?_ | refine vtk ?_
          refine von ?_
          refine vo ?_
          refine vnt ?_
          refine vc_if (fun g5 => ?_) (fun g5 => ?_)
          · refine vc_sr ?_
            iterate 3 refine vo ?_
            refine vnt ?_
            refine vc_ret ?_
            refine thn_r ?_
            refine fin_i [] rfl (fz ?_) trivial
            have hh := ip_n (s := s) (.inr (.inr (.inr (.inr g5))))
            rw [hh.1, hh.2]
            trivial
          · refine vc_skip ?_
            refine thn ?_
            refine vc_sr ?_
            iterate 3 refine vo ?_
            refine vnt ?_
            refine vc_ret ?_
            refine fin_i [] rfl (fz ?_) trivial
            have hh := ip_y (s := s) (by omega) (by omega) (by omega) g4 g5
            rw [hh.1, hh.2]
            first | trivial | (repeat' (refine And.intro ?_ ?_)) <;> first | rfl | trivial | omega | simp [m6]
set_option maxHeartbeats 4000000 in
theorem c_impl_ParseSegment {src dst kind : Int} {s : ByteArray} (hs_s : s.size ≤ 1099511627776 := by first | assumption | omega | (simp only [ByteArray.size_append, ByteArray.size_extract, strOfNums_size, List.length_cons, List.length_nil]; omega)) : Con0 Tryz.prog 135 [I src, I dst, I kind, Z s] (.tup [.agg [V (segPF src dst kind s).kind, V (segPF src dst kind s).sp, V (segPF src dst kind s).dp, V (segPF src dst kind s).seq, V (segPF src dst kind s).ack, V (segPF src dst kind s).fl, V (segPF src dst kind s).win, VS (segPF src dst kind s).body], B (segPB src dst kind s)]) [] := by
  refine con_i Tryz.func135 Tryz.ntmps135 (t := [(0, I src), (1, I dst), (2, I kind), (3, Z s)]) rfl ?_
  refine vc_sr ?_
  iterate 2 refine vo ?_
  refine vnt ?_
  refine vc_sr ?_
  iterate 2 refine vo ?_
  refine voc c_impl_Get16 rfl rfl ?_
  refine vo ?_
  refine voc c_impl_Get16 rfl rfl ?_
  iterate 3 refine vo ?_
  refine vnt ?_
  refine vc_seq' ?_
  refine vc_block ?_
  refine vc_sr ?_
  iterate 3 refine vo ?_
  refine vsp (fun g1 => ?_) (fun g1 => ?_)
  · iterate 3 refine von ?_
    iterate 2 refine vo ?_
    refine vnt ?_
    refine vc_if (fun g2 => ?_) (fun g2 => ?_)
    · refine vc_sr ?_
      refine vo ?_
      refine voc c_impl_Get32 rfl rfl ?_
      iterate 2 refine vo ?_
      refine vnt ?_
      refine vc_sr ?_
      refine vo ?_
      refine voc c_impl_Get32 rfl rfl ?_
      iterate 2 refine vo ?_
      refine vnt ?_
      refine vc_sr ?_
      iterate 3 refine vo ?_
      try refine veq (i64_byt _ _) ?_
      iterate 2 refine vo ?_
      refine vnt ?_
      refine vc_sr ?_
      refine vo ?_
      refine voc c_impl_Get16 rfl rfl ?_
      iterate 2 refine vo ?_
      refine vnt ?_
      refine vc_region ?_
      iterate 2 refine vo ?_
      try first | refine vdr ?_ | refine vtk ?_
      iterate 2 refine vo ?_
      refine vnil ?_
      refine inB_n ?_
      refine thn ?_
      refine vc_sr ?_
      iterate 3 refine vo ?_
      refine voc c_impl_BuildSegment rfl rfl ?_
      iterate 5 refine vo ?_
      refine vnt ?_
      refine vc_seq' ?_
      refine vc_sr ?_
      iterate 3 refine vo ?_
      refine vsp (fun g3 => ?_) (fun g3 => ?_)
      · iterate 3 refine vof ?_
        refine vo ?_
        refine vnt ?_
        refine vc_then ?_
        refine vc_sr ?_
        iterate 3 refine vo ?_
        refine vnt ?_
        refine vc_ret ?_
        refine thn_r ?_
        refine fin_i [] rfl (fz ?_) trivial
        have hx : segX kind s = ⟨kind, get16 s 0, get16 s 2, get32 s 4, get32 s 8, bAt s 13, get16 s 14, s.extract (Int.toNat 20) s.size⟩ := if_pos (by omega)
        have hh := seg_nx (src := src) (dst := dst) hx (.inl g3)
        rw [hh.1, hh.2]
        trivial
      · iterate 3 refine von ?_
        refine vo ?_
        refine vnt ?_
        refine vc_if (fun g4 => ?_) (fun g4 => ?_)
        · refine vc_sr ?_
          iterate 3 refine vo ?_
          refine vnt ?_
          refine vc_ret ?_
          refine thn_r ?_
          refine fin_i [] rfl (fz ?_) trivial
          have hx : segX kind s = ⟨kind, get16 s 0, get16 s 2, get32 s 4, get32 s 8, bAt s 13, get16 s 14, s.extract (Int.toNat 20) s.size⟩ := if_pos (by omega)
          have hh := seg_nx (src := src) (dst := dst) hx (.inr g4)
          rw [hh.1, hh.2]
          trivial
        · refine vc_skip ?_
          refine thn ?_
          refine vc_sr ?_
          iterate 3 refine vo ?_
          refine vnt ?_
          refine vc_ret ?_
          refine fin_i [] rfl (fz ?_) trivial
          have hx : segX kind s = ⟨kind, get16 s 0, get16 s 2, get32 s 4, get32 s 8, bAt s 13, get16 s 14, s.extract (Int.toNat 20) s.size⟩ := if_pos (by omega)
          have hh := seg_yx (src := src) (dst := dst) hx (.inl ⟨by omega, by omega⟩) g3 g4
          rw [hh.1, hh.2]
          first | trivial | (repeat' (refine And.intro ?_ ?_)) <;> first | rfl | trivial | omega | simp [m6]
    · refine vc_sr ?_
      iterate 3 refine vo ?_
      refine vsp (fun g5 => ?_) (fun g5 => ?_)
      · iterate 3 refine von ?_
        iterate 2 refine vo ?_
        refine vnt ?_
        refine vc_if (fun g6 => ?_) (fun g6 => ?_)
        · refine vc_region ?_
          iterate 2 refine vo ?_
          try first | refine vdr ?_ | refine vtk ?_
          iterate 2 refine vo ?_
          refine vnil ?_
          refine inB_n ?_
          refine thn ?_
          refine vc_sr ?_
          iterate 3 refine vo ?_
          refine voc c_impl_BuildSegment rfl rfl ?_
          iterate 5 refine vo ?_
          refine vnt ?_
          refine vc_seq' ?_
          refine vc_sr ?_
          iterate 3 refine vo ?_
          refine vsp (fun g7 => ?_) (fun g7 => ?_)
          · iterate 3 refine vof ?_
            refine vo ?_
            refine vnt ?_
            refine vc_then ?_
            refine vc_sr ?_
            iterate 3 refine vo ?_
            refine vnt ?_
            refine vc_ret ?_
            refine thn_r ?_
            refine fin_i [] rfl (fz ?_) trivial
            have hx : segX kind s = ⟨kind, get16 s 0, get16 s 2, 0, 0, 0, 0, s.extract (Int.toNat 8) s.size⟩ := if_neg (by omega)
            have hh := seg_nx (src := src) (dst := dst) hx (.inl g7)
            rw [hh.1, hh.2]
            trivial
          · iterate 3 refine von ?_
            refine vo ?_
            refine vnt ?_
            refine vc_if (fun g8 => ?_) (fun g8 => ?_)
            · refine vc_sr ?_
              iterate 3 refine vo ?_
              refine vnt ?_
              refine vc_ret ?_
              refine thn_r ?_
              refine fin_i [] rfl (fz ?_) trivial
              have hx : segX kind s = ⟨kind, get16 s 0, get16 s 2, 0, 0, 0, 0, s.extract (Int.toNat 8) s.size⟩ := if_neg (by omega)
              have hh := seg_nx (src := src) (dst := dst) hx (.inr g8)
              rw [hh.1, hh.2]
              trivial
            · refine vc_skip ?_
              refine thn ?_
              refine vc_sr ?_
              iterate 3 refine vo ?_
              refine vnt ?_
              refine vc_ret ?_
              refine fin_i [] rfl (fz ?_) trivial
              have hx : segX kind s = ⟨kind, get16 s 0, get16 s 2, 0, 0, 0, 0, s.extract (Int.toNat 8) s.size⟩ := if_neg (by omega)
              have hh := seg_yx (src := src) (dst := dst) hx (.inr ⟨by omega, by omega⟩) g7 g8
              rw [hh.1, hh.2]
              first | trivial | (repeat' (refine And.intro ?_ ?_)) <;> first | rfl | trivial | omega | simp [m6]
        · refine vc_sr ?_
          iterate 3 refine vo ?_
          refine vnt ?_
          refine vc_ret ?_
          refine inB_r ?_
          refine thn_r ?_
          refine fin_i [] rfl (fz ?_) trivial
          have hh := seg_n0 (src := src) (dst := dst) (kind := kind) (s := s) (by omega) (by omega)
          rw [hh.1, hh.2]
          trivial
      · iterate 3 refine vof ?_
        iterate 2 refine vo ?_
        refine vnt ?_
        refine vc_else ?_
        refine vc_sr ?_
        iterate 3 refine vo ?_
        refine vnt ?_
        refine vc_ret ?_
        refine inB_r ?_
        refine thn_r ?_
        refine fin_i [] rfl (fz ?_) trivial
        have hh := seg_n0 (src := src) (dst := dst) (kind := kind) (s := s) (by omega) (by omega)
        rw [hh.1, hh.2]
        trivial
  · iterate 3 refine vof ?_
    iterate 2 refine vo ?_
    refine vnt ?_
    refine vc_else ?_
    refine vc_sr ?_
    iterate 3 refine vo ?_
    refine vsp (fun g9 => ?_) (fun g9 => ?_)
    · iterate 3 refine von ?_
      iterate 2 refine vo ?_
      refine vnt ?_
      refine vc_if (fun g10 => ?_) (fun g10 => ?_)
      · refine vc_region ?_
        iterate 2 refine vo ?_
        try first | refine vdr ?_ | refine vtk ?_
        iterate 2 refine vo ?_
        refine vnil ?_
        refine inB_n ?_
        refine thn ?_
        refine vc_sr ?_
        iterate 3 refine vo ?_
        refine voc c_impl_BuildSegment rfl rfl ?_
        iterate 5 refine vo ?_
        refine vnt ?_
        refine vc_seq' ?_
        refine vc_sr ?_
        iterate 3 refine vo ?_
        refine vsp (fun g11 => ?_) (fun g11 => ?_)
        · iterate 3 refine vof ?_
          refine vo ?_
          refine vnt ?_
          refine vc_then ?_
          refine vc_sr ?_
          iterate 3 refine vo ?_
          refine vnt ?_
          refine vc_ret ?_
          refine thn_r ?_
          refine fin_i [] rfl (fz ?_) trivial
          have hx : segX kind s = ⟨kind, get16 s 0, get16 s 2, 0, 0, 0, 0, s.extract (Int.toNat 8) s.size⟩ := if_neg (by omega)
          have hh := seg_nx (src := src) (dst := dst) hx (.inl g11)
          rw [hh.1, hh.2]
          trivial
        · iterate 3 refine von ?_
          refine vo ?_
          refine vnt ?_
          refine vc_if (fun g12 => ?_) (fun g12 => ?_)
          · refine vc_sr ?_
            iterate 3 refine vo ?_
            refine vnt ?_
            refine vc_ret ?_
            refine thn_r ?_
            refine fin_i [] rfl (fz ?_) trivial
            have hx : segX kind s = ⟨kind, get16 s 0, get16 s 2, 0, 0, 0, 0, s.extract (Int.toNat 8) s.size⟩ := if_neg (by omega)
            have hh := seg_nx (src := src) (dst := dst) hx (.inr g12)
            rw [hh.1, hh.2]
            trivial
          · refine vc_skip ?_
            refine thn ?_
            refine vc_sr ?_
            iterate 3 refine vo ?_
            refine vnt ?_
            refine vc_ret ?_
            refine fin_i [] rfl (fz ?_) trivial
            have hx : segX kind s = ⟨kind, get16 s 0, get16 s 2, 0, 0, 0, 0, s.extract (Int.toNat 8) s.size⟩ := if_neg (by omega)
            have hh := seg_yx (src := src) (dst := dst) hx (.inr ⟨by omega, by omega⟩) g11 g12
            rw [hh.1, hh.2]
            first | trivial | (repeat' (refine And.intro ?_ ?_)) <;> first | rfl | trivial | omega | simp [m6]
      · refine vc_sr ?_
        iterate 3 refine vo ?_
        refine vnt ?_
        refine vc_ret ?_
        refine inB_r ?_
        refine thn_r ?_
        refine fin_i [] rfl (fz ?_) trivial
        have hh := seg_n0 (src := src) (dst := dst) (kind := kind) (s := s) (by omega) (by omega)
        rw [hh.1, hh.2]
        trivial
    · iterate 3 refine vof ?_
      iterate 2 refine vo ?_
      refine vnt ?_
      refine vc_else ?_
      refine vc_sr ?_
      iterate 3 refine vo ?_
      refine vnt ?_
      refine vc_ret ?_
      refine inB_r ?_
      refine thn_r ?_
      refine fin_i [] rfl (fz ?_) trivial
      have hh := seg_n0 (src := src) (dst := dst) (kind := kind) (s := s) (by omega) (by omega)
      rw [hh.1, hh.2]
      trivial
set_option maxHeartbeats 4000000 in
theorem c_impl_ReadImage {s : ByteArray} (hs_s : s.size ≤ 1099511627776 := by first | assumption | omega | (simp only [ByteArray.size_append, ByteArray.size_extract, strOfNums_size, List.length_cons, List.length_nil]; omega)) : Con0 Tryz.prog 56 [Z s] (.tup [.agg [V (rdF s).dm, V (rdF s).sm, V (rdF s).vl, V (rdF s).tos, V (rdF s).id, V (rdF s).ttl, V (rdF s).si, V (rdF s).di, V (rdF s).kind, V (rdF s).sp, V (rdF s).dp, V (rdF s).seq, V (rdF s).ack, V (rdF s).fl, V (rdF s).win, VS (rdF s).body], I (rdC s)]) [] := by
  refine con_i Tryz.func56 Tryz.ntmps56 (t := [(0, Z s)]) rfl ?_
  refine vc_sr ?_
  iterate 2 refine vo ?_
  refine vnt ?_
  refine vc_sr ?_
  refine vo ?_
  refine voc c_impl_ParseEth rfl rfl ?_
  iterate 6 refine vo ?_
  refine vnt ?_
  refine vc_seq' ?_
  refine vc_sr ?_
  iterate 3 refine vo ?_
  refine vsp (fun g1 => ?_) (fun g1 => ?_)
  · iterate 3 refine vof ?_
    refine vo ?_
    refine vnt ?_
    refine vc_then ?_
    refine vc_sr ?_
    iterate 3 refine vo ?_
    refine vnt ?_
    refine vc_ret ?_
    refine thn_r ?_
    refine fin_i [] rfl (fz ?_) trivial
    have hh := rd_2 (.inl g1)
    rw [hh.1, hh.2]
    trivial
  · rw [ethPF_y g1]
    have z1 : (ethX s).body.size ≤ 1099511627776 := Nat.le_trans (ethX_body s) hs_s
    iterate 3 refine von ?_
    refine vo ?_
    refine vnt ?_
    refine vc_if (fun g2 => ?_) (fun g2 => ?_)
    · refine vc_sr ?_
      iterate 3 refine vo ?_
      refine vnt ?_
      refine vc_ret ?_
      refine thn_r ?_
      refine fin_i [] rfl (fz ?_) trivial
      have hh := rd_2 (.inr g2)
      rw [hh.1, hh.2]
      trivial
    · refine vc_skip ?_
      refine thn ?_
      refine vc_sr ?_
      iterate 2 refine vo ?_
      refine voc c_impl_ParseIp rfl rfl ?_
      iterate 6 refine vo ?_
      refine vnt ?_
      refine vc_seq' ?_
      refine vc_sr ?_
      iterate 2 refine vo ?_
      refine vnt ?_
      refine vc_if (fun g3 => ?_) (fun g3 => ?_)
      · refine vc_sr ?_
        iterate 3 refine vo ?_
        refine vnt ?_
        refine vc_ret ?_
        refine thn_r ?_
        refine fin_i [] rfl (fz ?_) trivial
        have hh := rd_3 g1 g2 g3
        rw [hh.1, hh.2]
        trivial
      · rw [ipPF_y g3]
        have z2 : (ipX (ethX s).body).body.size ≤ 1099511627776 := Nat.le_trans (ipX_body (ethX s).body) z1
        refine vc_skip ?_
        refine thn ?_
        refine vc_sr ?_
        iterate 8 refine vo ?_
        refine voc c_impl_ParseSegment rfl rfl ?_
        iterate 6 refine vo ?_
        refine vnt ?_
        refine vc_seq' ?_
        refine vc_sr ?_
        iterate 2 refine vo ?_
        refine vnt ?_
        refine vc_if (fun g4 => ?_) (fun g4 => ?_)
        · refine vc_sr ?_
          iterate 3 refine vo ?_
          refine vnt ?_
          refine vc_ret ?_
          refine thn_r ?_
          refine fin_i [] rfl (fz ?_) trivial
          have hh := rd_4 g1 g2 g3 g4
          rw [hh.1, hh.2]
          trivial
        · rw [segPF_y g4]
          have z3 : (segX (ipX (ethX s).body).pr (ipX (ethX s).body).body).body.size ≤ 1099511627776 := Nat.le_trans (segX_body _ _) z2
          refine vc_skip ?_
          refine thn ?_
          refine vc_sr ?_
          iterate 20 refine vo ?_
          refine vnt ?_
          refine vc_seq' ?_
          refine vc_sr ?_
          refine vo ?_
          refine voc c_impl_SuperOk rfl rfl ?_
          refine vo ?_
          refine vnt ?_
          refine vc_if (fun g5 => ?_) (fun g5 => ?_)
          · refine vc_sr ?_
            iterate 3 refine vo ?_
            refine vnt ?_
            refine vc_ret ?_
            refine thn_r ?_
            refine fin_i [] rfl (fz ?_) trivial
            have hh := rd_5 g1 g2 g3 g4 g5
            rw [hh.1, hh.2]
            trivial
          · refine vc_skip ?_
            refine thn ?_
            refine vc_sr ?_
            iterate 3 refine vo ?_
            refine vnt ?_
            refine vc_ret ?_
            refine fin_i [] rfl (fz ?_) trivial
            have hh := rd_0 g1 g2 g3 g4 g5
            rw [hh.1, hh.2]
            simp only [rdX, mkPk, and_self]
set_option maxHeartbeats 4000000 in
theorem c_spec_ParseEth {s : ByteArray} (hs_s : s.size ≤ 1099511627776 := by first | assumption | omega | (simp only [ByteArray.size_append, ByteArray.size_extract, strOfNums_size, List.length_cons, List.length_nil]; omega)) : Con0 Tryz.prog 111 [Z s] (.tup [.agg [V (ethPF s).dst, V (ethPF s).src, V (ethPF s).vl, V (ethPF s).ty, VS (ethPF s).body], B (ethPB s)]) [] := by
  refine con_i Tryz.func111 Tryz.ntmps111 (t := [(0, Z s)]) rfl ?_
  refine vc_sr ?_
  iterate 2 refine vo ?_
  refine vnt ?_
  refine vc_seq' ?_
  refine vc_sr ?_
  iterate 3 refine vo ?_
  refine vnt ?_
  refine vc_if (fun g1 => ?_) (fun g1 => ?_)
  · refine vc_sr ?_
    iterate 3 refine vo ?_
    refine vnt ?_
    refine vc_ret ?_
    refine thn_r ?_
    refine fin_i [] rfl (fz ?_) trivial
    have hh := eth_n (s := s) rfl (.inl (by omega))
    rw [hh.1, hh.2]
    trivial
  · have k0 := get16_in (s := s) (i := 0) (by omega) (by omega)
    have k1 := get32_in (s := s) (i := 2) (by omega) (by omega)
    have k2 := get16_in (s := s) (i := 6) (by omega) (by omega)
    have k3 := get32_in (s := s) (i := 8) (by omega) (by omega)
    refine vc_skip ?_
    refine thn ?_
    refine vc_sr ?_
    refine vo ?_
    refine voc c_spec_Get16 rfl rfl ?_
    iterate 2 refine vo ?_
    refine voc c_spec_Get32 rfl rfl ?_
    refine vo ?_
    try refine vwr ?_
    refine veq (m6_ad k0 k1) ?_
    refine vo ?_
    refine voc c_spec_Get16 rfl rfl ?_
    iterate 2 refine vo ?_
    refine voc c_spec_Get32 rfl rfl ?_
    refine vo ?_
    try refine vwr ?_
    refine veq (m6_ad k2 k3) ?_
    refine vo ?_
    refine voc c_spec_Get16 rfl rfl ?_
    iterate 2 refine vo ?_
    try first | refine vdr ?_ | refine vtk ?_
    iterate 3 refine vo ?_
    refine vnt ?_
    refine vc_seq' ?_
    refine vc_sr ?_
    iterate 3 refine vo ?_
    refine vnt ?_
    refine vc_if (fun g2 => ?_) (fun g2 => ?_)
    · refine vc_sr ?_
      refine vo ?_
      refine voc c_spec_Get16 rfl rfl ?_
      iterate 2 refine vo ?_
      refine vnt ?_
      refine vc_sr ?_
      refine vo ?_
      refine voc c_spec_Get16 rfl rfl ?_
      iterate 2 refine vo ?_
      refine vnt ?_
      refine vc_region ?_
      iterate 2 refine vo ?_
      try first | refine vdr ?_ | refine vtk ?_
      iterate 2 refine vo ?_
      refine vnt ?_
      refine vc_seq' ?_
      refine vc_sr ?_
      refine vo ?_
      refine voc c_spec_EthOk rfl rfl ?_
      refine vo ?_
      refine vnt ?_
      refine vc_if (fun g3 => ?_) (fun g3 => ?_)
      · refine vc_sr ?_
        iterate 3 refine vo ?_
        refine vnt ?_
        refine vc_ret ?_
        refine thn_r ?_
        refine fin_i [] rfl (fz ?_) trivial
        have hx : ethX s = ⟨m6 s 0, m6 s 6, get16 s 14, get16 s 16, s.extract (Int.toNat 18) s.size⟩ := if_pos ⟨by omega, by omega⟩
        have hh := eth_n hx (.inr g3)
        rw [hh.1, hh.2]
        trivial
      · refine vc_skip ?_
        refine thn ?_
        refine vc_sr ?_
        iterate 3 refine vo ?_
        refine vnt ?_
        refine vc_ret ?_
        refine fin_i [] rfl (fz ?_) trivial
        have hx : ethX s = ⟨m6 s 0, m6 s 6, get16 s 14, get16 s 16, s.extract (Int.toNat 18) s.size⟩ := if_pos ⟨by omega, by omega⟩
        have hh := eth_y hx g3
        rw [hh.1, hh.2]
        first | trivial | (repeat' (refine And.intro ?_ ?_)) <;> first | rfl | trivial | omega | simp [m6]
    · refine vc_skip ?_
      refine thn ?_
      refine vc_seq' ?_
      refine vc_sr ?_
      refine vo ?_
      refine voc c_spec_EthOk rfl rfl ?_
      refine vo ?_
      refine vnt ?_
      refine vc_if (fun g4 => ?_) (fun g4 => ?_)
      · refine vc_sr ?_
        iterate 3 refine vo ?_
        refine vnt ?_
        refine vc_ret ?_
        refine thn_r ?_
        refine fin_i [] rfl (fz ?_) trivial
        have hx : ethX s = ⟨m6 s 0, m6 s 6, -1, get16 s 12, s.extract (Int.toNat 14) s.size⟩ := if_neg (by omega)
        have hh := eth_n hx (.inr g4)
        rw [hh.1, hh.2]
        trivial
      · refine vc_skip ?_
        refine thn ?_
        refine vc_sr ?_
        iterate 3 refine vo ?_
        refine vnt ?_
        refine vc_ret ?_
        refine fin_i [] rfl (fz ?_) trivial
        have hx : ethX s = ⟨m6 s 0, m6 s 6, -1, get16 s 12, s.extract (Int.toNat 14) s.size⟩ := if_neg (by omega)
        have hh := eth_y hx g4
        rw [hh.1, hh.2]
        first | trivial | (repeat' (refine And.intro ?_ ?_)) <;> first | rfl | trivial | omega | simp [m6]
set_option maxHeartbeats 4000000 in
theorem c_spec_ParseIp {s : ByteArray} (hs_s : s.size ≤ 1099511627776 := by first | assumption | omega | (simp only [ByteArray.size_append, ByteArray.size_extract, strOfNums_size, List.length_cons, List.length_nil]; omega)) : Con0 Tryz.prog 112 [Z s] (.tup [.agg [V (ipPF s).tos, V (ipPF s).id, V (ipPF s).ttl, V (ipPF s).pr, V (ipPF s).src, V (ipPF s).dst, VS (ipPF s).body], B (ipPB s)]) [] := by
  refine con_i Tryz.func112 Tryz.ntmps112 (t := [(0, Z s)]) rfl ?_
  refine vc_sr ?_
  iterate 2 refine vo ?_
  refine vnt ?_
  refine vc_sr ?_
  refine vo ?_
  refine voc c_spec_Get16 rfl rfl ?_
  refine vo ?_
  refine vnt ?_
  refine vc_seq' ?_
  refine vc_sr ?_
  iterate 4 refine vo ?_
  refine vsp (fun g1 => ?_) (fun g1 => ?_)
  · iterate 2 refine vof ?_
    iterate 2 refine vo ?_
    iterate 4 refine vof ?_
    refine vo ?_
    refine vnt ?_
    refine vc_then ?_
    refine vc_sr ?_
    iterate 3 refine vo ?_
    refine vnt ?_
    refine vc_ret ?_
    refine thn_r ?_
    refine fin_i [] rfl (fz ?_) trivial
    have hh := ip_n (s := s) (.inl (by omega))
    rw [hh.1, hh.2]
    trivial
  · iterate 2 refine von ?_
    iterate 2 refine vo ?_
    refine vsp (fun g2 => ?_) (fun g2 => ?_)
    · iterate 4 refine vof ?_
      refine vo ?_
      refine vnt ?_
      refine vc_then ?_
      refine vc_sr ?_
      iterate 3 refine vo ?_
      refine vnt ?_
      refine vc_ret ?_
      refine thn_r ?_
      refine fin_i [] rfl (fz ?_) trivial
      have hh := ip_n (s := s) (.inr (.inl (by omega)))
      rw [hh.1, hh.2]
      trivial
    · iterate 4 refine von ?_
      refine vo ?_
      refine vnt ?_
      refine vc_if (fun g3 => ?_) (fun g3 => ?_)
      · refine vc_sr ?_
        iterate 3 refine vo ?_
        refine vnt ?_
        refine vc_ret ?_
        refine thn_r ?_
        refine fin_i [] rfl (fz ?_) trivial
        have hh := ip_n (s := s) (.inr (.inr (.inl (by omega))))
        rw [hh.1, hh.2]
        trivial
      · refine vc_skip ?_
        refine thn ?_
        refine vc_sr ?_
        iterate 3 refine vo ?_
        try refine veq (i64_byt _ _) ?_
        refine vo ?_
        refine voc c_spec_Get16 rfl rfl ?_
        iterate 3 refine vo ?_
        try refine veq (i64_byt _ _) ?_
        iterate 3 refine vo ?_
        try refine veq (i64_byt _ _) ?_
        refine vo ?_
        refine voc c_spec_Get32 rfl rfl ?_
        refine vo ?_
        refine voc c_spec_Get32 rfl rfl ?_
        iterate 3 refine vo ?_
        try first | refine vdr ?_ | refine vtk ?_
        iterate 3 refine vo ?_
        refine vnt ?_
        refine vc_sr ?_
        refine vo ?_
        refine voc c_spec_BuildIp rfl rfl ?_
        iterate 5 refine vo ?_
        refine vnt ?_
        refine vc_seq' ?_
        refine vc_sr ?_
        iterate 3 refine vo ?_
        refine vsp (fun g4 => ?_) (fun g4 => ?_)
        · iterate 5 refine vof ?_
          refine vo ?_
          refine vnt ?_
          refine vc_then ?_
          refine vc_sr ?_
          iterate 3 refine vo ?_
          refine vnt ?_
          refine vc_ret ?_
          refine thn_r ?_
          refine fin_i [] rfl (fz ?_) trivial
          have hh := ip_n (s := s) (.inr (.inr (.inr (.inl g4))))
          rw [hh.1, hh.2]
          trivial
        · iterate 4 refine von ?_
          try first | refine vdr ?_ | refine vtk ?_
          refine von ?_
          refine vo ?_
          refine vnt ?_
          refine vc_if (fun g5 => ?_) (fun g5 => ?_)
          · refine vc_sr ?_
            iterate 3 refine vo ?_
            refine vnt ?_
            refine vc_ret ?_
            refine thn_r ?_
            refine fin_i [] rfl (fz ?_) trivial
            have hh := ip_n (s := s) (.inr (.inr (.inr (.inr g5))))
            rw [hh.1, hh.2]
            trivial
          · refine vc_skip ?_
            refine thn ?_
            refine vc_sr ?_
            iterate 3 refine vo ?_
            refine vnt ?_
            refine vc_ret ?_
            refine fin_i [] rfl (fz ?_) trivial
            have hh := ip_y (s := s) (by omega) (by omega) (by omega) g4 g5
            rw [hh.1, hh.2]
            first | trivial | (repeat' (refine And.intro ?_ ?_)) <;> first | rfl | trivial | omega | simp [m6]
set_option maxHeartbeats 4000000 in
theorem c_spec_ParseSegment {src dst kind : Int} {s : ByteArray} (hs_s : s.size ≤ 1099511627776 := by first | assumption | omega | (simp only [ByteArray.size_append, ByteArray.size_extract, strOfNums_size, List.length_cons, List.length_nil]; omega)) : Con0 Tryz.prog 113 [I src, I dst, I kind, Z s] (.tup [.agg [V (segPF src dst kind s).kind, V (segPF src dst kind s).sp, V (segPF src dst kind s).dp, V (segPF src dst kind s).seq, V (segPF src dst kind s).ack, V (segPF src dst kind s).fl, V (segPF src dst kind s).win, VS (segPF src dst kind s).body], B (segPB src dst kind s)]) [] := by
  refine con_i Tryz.func113 Tryz.ntmps113 (t := [(0, I src), (1, I dst), (2, I kind), (3, Z s)]) rfl ?_
  refine vc_sr ?_
  iterate 2 refine vo ?_
  refine vnt ?_
  refine vc_sr ?_
  iterate 2 refine vo ?_
  refine voc c_spec_Get16 rfl rfl ?_
  refine vo ?_
  refine voc c_spec_Get16 rfl rfl ?_
  iterate 3 refine vo ?_
  refine vnt ?_
  refine vc_seq' ?_
  refine vc_block ?_
  refine vc_sr ?_
  iterate 3 refine vo ?_
  refine vsp (fun g1 => ?_) (fun g1 => ?_)
  · iterate 3 refine von ?_
    iterate 2 refine vo ?_
    refine vnt ?_
    refine vc_if (fun g2 => ?_) (fun g2 => ?_)
    · refine vc_sr ?_
      refine vo ?_
      refine voc c_spec_Get32 rfl rfl ?_
      iterate 2 refine vo ?_
      refine vnt ?_
      refine vc_sr ?_
      refine vo ?_
      refine voc c_spec_Get32 rfl rfl ?_
      iterate 2 refine vo ?_
      refine vnt ?_
      refine vc_sr ?_
      iterate 3 refine vo ?_
      try refine veq (i64_byt _ _) ?_
      iterate 2 refine vo ?_
      refine vnt ?_
      refine vc_sr ?_
      refine vo ?_
      refine voc c_spec_Get16 rfl rfl ?_
      iterate 2 refine vo ?_
      refine vnt ?_
      refine vc_region ?_
      iterate 2 refine vo ?_
      try first | refine vdr ?_ | refine vtk ?_
      iterate 2 refine vo ?_
      refine vnil ?_
      refine inB_n ?_
      refine thn ?_
      refine vc_sr ?_
      iterate 3 refine vo ?_
      refine voc c_spec_BuildSegment rfl rfl ?_
      iterate 5 refine vo ?_
      refine vnt ?_
      refine vc_seq' ?_
      refine vc_sr ?_
      iterate 3 refine vo ?_
      refine vsp (fun g3 => ?_) (fun g3 => ?_)
      · iterate 3 refine vof ?_
        refine vo ?_
        refine vnt ?_
        refine vc_then ?_
        refine vc_sr ?_
        iterate 3 refine vo ?_
        refine vnt ?_
        refine vc_ret ?_
        refine thn_r ?_
        refine fin_i [] rfl (fz ?_) trivial
        have hx : segX kind s = ⟨kind, get16 s 0, get16 s 2, get32 s 4, get32 s 8, bAt s 13, get16 s 14, s.extract (Int.toNat 20) s.size⟩ := if_pos (by omega)
        have hh := seg_nx (src := src) (dst := dst) hx (.inl g3)
        rw [hh.1, hh.2]
        trivial
      · iterate 3 refine von ?_
        refine vo ?_
        refine vnt ?_
        refine vc_if (fun g4 => ?_) (fun g4 => ?_)
        · refine vc_sr ?_
          iterate 3 refine vo ?_
          refine vnt ?_
          refine vc_ret ?_
          refine thn_r ?_
          refine fin_i [] rfl (fz ?_) trivial
          have hx : segX kind s = ⟨kind, get16 s 0, get16 s 2, get32 s 4, get32 s 8, bAt s 13, get16 s 14, s.extract (Int.toNat 20) s.size⟩ := if_pos (by omega)
          have hh := seg_nx (src := src) (dst := dst) hx (.inr g4)
          rw [hh.1, hh.2]
          trivial
        · refine vc_skip ?_
          refine thn ?_
          refine vc_sr ?_
          iterate 3 refine vo ?_
          refine vnt ?_
          refine vc_ret ?_
          refine fin_i [] rfl (fz ?_) trivial
          have hx : segX kind s = ⟨kind, get16 s 0, get16 s 2, get32 s 4, get32 s 8, bAt s 13, get16 s 14, s.extract (Int.toNat 20) s.size⟩ := if_pos (by omega)
          have hh := seg_yx (src := src) (dst := dst) hx (.inl ⟨by omega, by omega⟩) g3 g4
          rw [hh.1, hh.2]
          first | trivial | (repeat' (refine And.intro ?_ ?_)) <;> first | rfl | trivial | omega | simp [m6]
    · refine vc_sr ?_
      iterate 3 refine vo ?_
      refine vsp (fun g5 => ?_) (fun g5 => ?_)
      · iterate 3 refine von ?_
        iterate 2 refine vo ?_
        refine vnt ?_
        refine vc_if (fun g6 => ?_) (fun g6 => ?_)
        · refine vc_region ?_
          iterate 2 refine vo ?_
          try first | refine vdr ?_ | refine vtk ?_
          iterate 2 refine vo ?_
          refine vnil ?_
          refine inB_n ?_
          refine thn ?_
          refine vc_sr ?_
          iterate 3 refine vo ?_
          refine voc c_spec_BuildSegment rfl rfl ?_
          iterate 5 refine vo ?_
          refine vnt ?_
          refine vc_seq' ?_
          refine vc_sr ?_
          iterate 3 refine vo ?_
          refine vsp (fun g7 => ?_) (fun g7 => ?_)
          · iterate 3 refine vof ?_
            refine vo ?_
            refine vnt ?_
            refine vc_then ?_
            refine vc_sr ?_
            iterate 3 refine vo ?_
            refine vnt ?_
            refine vc_ret ?_
            refine thn_r ?_
            refine fin_i [] rfl (fz ?_) trivial
            have hx : segX kind s = ⟨kind, get16 s 0, get16 s 2, 0, 0, 0, 0, s.extract (Int.toNat 8) s.size⟩ := if_neg (by omega)
            have hh := seg_nx (src := src) (dst := dst) hx (.inl g7)
            rw [hh.1, hh.2]
            trivial
          · iterate 3 refine von ?_
            refine vo ?_
            refine vnt ?_
            refine vc_if (fun g8 => ?_) (fun g8 => ?_)
            · refine vc_sr ?_
              iterate 3 refine vo ?_
              refine vnt ?_
              refine vc_ret ?_
              refine thn_r ?_
              refine fin_i [] rfl (fz ?_) trivial
              have hx : segX kind s = ⟨kind, get16 s 0, get16 s 2, 0, 0, 0, 0, s.extract (Int.toNat 8) s.size⟩ := if_neg (by omega)
              have hh := seg_nx (src := src) (dst := dst) hx (.inr g8)
              rw [hh.1, hh.2]
              trivial
            · refine vc_skip ?_
              refine thn ?_
              refine vc_sr ?_
              iterate 3 refine vo ?_
              refine vnt ?_
              refine vc_ret ?_
              refine fin_i [] rfl (fz ?_) trivial
              have hx : segX kind s = ⟨kind, get16 s 0, get16 s 2, 0, 0, 0, 0, s.extract (Int.toNat 8) s.size⟩ := if_neg (by omega)
              have hh := seg_yx (src := src) (dst := dst) hx (.inr ⟨by omega, by omega⟩) g7 g8
              rw [hh.1, hh.2]
              first | trivial | (repeat' (refine And.intro ?_ ?_)) <;> first | rfl | trivial | omega | simp [m6]
        · refine vc_sr ?_
          iterate 3 refine vo ?_
          refine vnt ?_
          refine vc_ret ?_
          refine inB_r ?_
          refine thn_r ?_
          refine fin_i [] rfl (fz ?_) trivial
          have hh := seg_n0 (src := src) (dst := dst) (kind := kind) (s := s) (by omega) (by omega)
          rw [hh.1, hh.2]
          trivial
      · iterate 3 refine vof ?_
        iterate 2 refine vo ?_
        refine vnt ?_
        refine vc_else ?_
        refine vc_sr ?_
        iterate 3 refine vo ?_
        refine vnt ?_
        refine vc_ret ?_
        refine inB_r ?_
        refine thn_r ?_
        refine fin_i [] rfl (fz ?_) trivial
        have hh := seg_n0 (src := src) (dst := dst) (kind := kind) (s := s) (by omega) (by omega)
        rw [hh.1, hh.2]
        trivial
  · iterate 3 refine vof ?_
    iterate 2 refine vo ?_
    refine vnt ?_
    refine vc_else ?_
    refine vc_sr ?_
    iterate 3 refine vo ?_
    refine vsp (fun g9 => ?_) (fun g9 => ?_)
    · iterate 3 refine von ?_
      iterate 2 refine vo ?_
      refine vnt ?_
      refine vc_if (fun g10 => ?_) (fun g10 => ?_)
      · refine vc_region ?_
        iterate 2 refine vo ?_
        try first | refine vdr ?_ | refine vtk ?_
        iterate 2 refine vo ?_
        refine vnil ?_
        refine inB_n ?_
        refine thn ?_
        refine vc_sr ?_
        iterate 3 refine vo ?_
        refine voc c_spec_BuildSegment rfl rfl ?_
        iterate 5 refine vo ?_
        refine vnt ?_
        refine vc_seq' ?_
        refine vc_sr ?_
        iterate 3 refine vo ?_
        refine vsp (fun g11 => ?_) (fun g11 => ?_)
        · iterate 3 refine vof ?_
          refine vo ?_
          refine vnt ?_
          refine vc_then ?_
          refine vc_sr ?_
          iterate 3 refine vo ?_
          refine vnt ?_
          refine vc_ret ?_
          refine thn_r ?_
          refine fin_i [] rfl (fz ?_) trivial
          have hx : segX kind s = ⟨kind, get16 s 0, get16 s 2, 0, 0, 0, 0, s.extract (Int.toNat 8) s.size⟩ := if_neg (by omega)
          have hh := seg_nx (src := src) (dst := dst) hx (.inl g11)
          rw [hh.1, hh.2]
          trivial
        · iterate 3 refine von ?_
          refine vo ?_
          refine vnt ?_
          refine vc_if (fun g12 => ?_) (fun g12 => ?_)
          · refine vc_sr ?_
            iterate 3 refine vo ?_
            refine vnt ?_
            refine vc_ret ?_
            refine thn_r ?_
            refine fin_i [] rfl (fz ?_) trivial
            have hx : segX kind s = ⟨kind, get16 s 0, get16 s 2, 0, 0, 0, 0, s.extract (Int.toNat 8) s.size⟩ := if_neg (by omega)
            have hh := seg_nx (src := src) (dst := dst) hx (.inr g12)
            rw [hh.1, hh.2]
            trivial
          · refine vc_skip ?_
            refine thn ?_
            refine vc_sr ?_
            iterate 3 refine vo ?_
            refine vnt ?_
            refine vc_ret ?_
            refine fin_i [] rfl (fz ?_) trivial
            have hx : segX kind s = ⟨kind, get16 s 0, get16 s 2, 0, 0, 0, 0, s.extract (Int.toNat 8) s.size⟩ := if_neg (by omega)
            have hh := seg_yx (src := src) (dst := dst) hx (.inr ⟨by omega, by omega⟩) g11 g12
            rw [hh.1, hh.2]
            first | trivial | (repeat' (refine And.intro ?_ ?_)) <;> first | rfl | trivial | omega | simp [m6]
      · refine vc_sr ?_
        iterate 3 refine vo ?_
        refine vnt ?_
        refine vc_ret ?_
        refine inB_r ?_
        refine thn_r ?_
        refine fin_i [] rfl (fz ?_) trivial
        have hh := seg_n0 (src := src) (dst := dst) (kind := kind) (s := s) (by omega) (by omega)
        rw [hh.1, hh.2]
        trivial
    · iterate 3 refine vof ?_
      iterate 2 refine vo ?_
      refine vnt ?_
      refine vc_else ?_
      refine vc_sr ?_
      iterate 3 refine vo ?_
      refine vnt ?_
      refine vc_ret ?_
      refine inB_r ?_
      refine thn_r ?_
      refine fin_i [] rfl (fz ?_) trivial
      have hh := seg_n0 (src := src) (dst := dst) (kind := kind) (s := s) (by omega) (by omega)
      rw [hh.1, hh.2]
      trivial
set_option maxHeartbeats 4000000 in
theorem c_spec_ReadImage {s : ByteArray} (hs_s : s.size ≤ 1099511627776 := by first | assumption | omega | (simp only [ByteArray.size_append, ByteArray.size_extract, strOfNums_size, List.length_cons, List.length_nil]; omega)) : Con0 Tryz.prog 46 [Z s] (.tup [.agg [V (rdF s).dm, V (rdF s).sm, V (rdF s).vl, V (rdF s).tos, V (rdF s).id, V (rdF s).ttl, V (rdF s).si, V (rdF s).di, V (rdF s).kind, V (rdF s).sp, V (rdF s).dp, V (rdF s).seq, V (rdF s).ack, V (rdF s).fl, V (rdF s).win, VS (rdF s).body], I (rdC s)]) [] := by
  refine con_i Tryz.func46 Tryz.ntmps46 (t := [(0, Z s)]) rfl ?_
  refine vc_sr ?_
  iterate 2 refine vo ?_
  refine vnt ?_
  refine vc_sr ?_
  refine vo ?_
  refine voc c_spec_ParseEth rfl rfl ?_
  iterate 6 refine vo ?_
  refine vnt ?_
  refine vc_seq' ?_
  refine vc_sr ?_
  iterate 3 refine vo ?_
  refine vsp (fun g1 => ?_) (fun g1 => ?_)
  · iterate 3 refine vof ?_
    refine vo ?_
    refine vnt ?_
    refine vc_then ?_
    refine vc_sr ?_
    iterate 3 refine vo ?_
    refine vnt ?_
    refine vc_ret ?_
    refine thn_r ?_
    refine fin_i [] rfl (fz ?_) trivial
    have hh := rd_2 (.inl g1)
    rw [hh.1, hh.2]
    trivial
  · rw [ethPF_y g1]
    have z1 : (ethX s).body.size ≤ 1099511627776 := Nat.le_trans (ethX_body s) hs_s
    iterate 3 refine von ?_
    refine vo ?_
    refine vnt ?_
    refine vc_if (fun g2 => ?_) (fun g2 => ?_)
    · refine vc_sr ?_
      iterate 3 refine vo ?_
      refine vnt ?_
      refine vc_ret ?_
      refine thn_r ?_
      refine fin_i [] rfl (fz ?_) trivial
      have hh := rd_2 (.inr g2)
      rw [hh.1, hh.2]
      trivial
    · refine vc_skip ?_
      refine thn ?_
      refine vc_sr ?_
      iterate 2 refine vo ?_
      refine voc c_spec_ParseIp rfl rfl ?_
      iterate 6 refine vo ?_
      refine vnt ?_
      refine vc_seq' ?_
      refine vc_sr ?_
      iterate 2 refine vo ?_
      refine vnt ?_
      refine vc_if (fun g3 => ?_) (fun g3 => ?_)
      · refine vc_sr ?_
        iterate 3 refine vo ?_
        refine vnt ?_
        refine vc_ret ?_
        refine thn_r ?_
        refine fin_i [] rfl (fz ?_) trivial
        have hh := rd_3 g1 g2 g3
        rw [hh.1, hh.2]
        trivial
      · rw [ipPF_y g3]
        have z2 : (ipX (ethX s).body).body.size ≤ 1099511627776 := Nat.le_trans (ipX_body (ethX s).body) z1
        refine vc_skip ?_
        refine thn ?_
        refine vc_sr ?_
        iterate 8 refine vo ?_
        refine voc c_spec_ParseSegment rfl rfl ?_
        iterate 6 refine vo ?_
        refine vnt ?_
        refine vc_seq' ?_
        refine vc_sr ?_
        iterate 2 refine vo ?_
        refine vnt ?_
        refine vc_if (fun g4 => ?_) (fun g4 => ?_)
        · refine vc_sr ?_
          iterate 3 refine vo ?_
          refine vnt ?_
          refine vc_ret ?_
          refine thn_r ?_
          refine fin_i [] rfl (fz ?_) trivial
          have hh := rd_4 g1 g2 g3 g4
          rw [hh.1, hh.2]
          trivial
        · rw [segPF_y g4]
          have z3 : (segX (ipX (ethX s).body).pr (ipX (ethX s).body).body).body.size ≤ 1099511627776 := Nat.le_trans (segX_body _ _) z2
          refine vc_skip ?_
          refine thn ?_
          refine vc_sr ?_
          iterate 20 refine vo ?_
          refine vnt ?_
          refine vc_seq' ?_
          refine vc_sr ?_
          refine vo ?_
          refine voc c_spec_SuperOk rfl rfl ?_
          refine vo ?_
          refine vnt ?_
          refine vc_if (fun g5 => ?_) (fun g5 => ?_)
          · refine vc_sr ?_
            iterate 3 refine vo ?_
            refine vnt ?_
            refine vc_ret ?_
            refine thn_r ?_
            refine fin_i [] rfl (fz ?_) trivial
            have hh := rd_5 g1 g2 g3 g4 g5
            rw [hh.1, hh.2]
            trivial
          · refine vc_skip ?_
            refine thn ?_
            refine vc_sr ?_
            iterate 3 refine vo ?_
            refine vnt ?_
            refine vc_ret ?_
            refine fin_i [] rfl (fz ?_) trivial
            have hh := rd_0 g1 g2 g3 g4 g5
            rw [hh.1, hh.2]
            simp only [rdX, mkPk, and_self]
end Go.Proofs.YtgbjkojgjhcabaaGreat
end
section
namespace Go.Proofs.YtgbjkojgjhcabaaGreat
open Go Go.RowKit Go.Vc
set_option linter.unusedVariables false
set_option linter.unusedSimpArgs false
set_option linter.unnecessarySimpa false
theorem atq_eq {α : Type} [Inhabited α] {l : List α} {i : Nat} (h : i < l.length) : at' l i = l[i] := by unfold at'; rw [List.getElem?_eq_getElem h]; rfl
theorem all_stp {α : Type} [Inhabited α] {l : List α} {p : α → Bool} {i : Nat} (h : (l.take i).all p = true) (hi : i < l.length) (hp : p (at' l i) = true) : (l.take (i + 1)).all p = true := by
  rw [List.take_succ_eq_append_getElem hi, List.all_append, h, ← atq_eq hi]
  simp [hp]
theorem all_bad {α : Type} [Inhabited α] {l : List α} {p : α → Bool} {i : Nat} (hi : i < l.length) (hp : p (at' l i) = false) : l.all p = false := by
  rw [Bool.eq_false_iff]
  intro h
  have := List.all_eq_true.1 h l[i] (List.getElem_mem hi)
  rw [atq_eq hi] at hp
  rw [hp] at this; cases this
theorem all_end {α : Type} {l : List α} {p : α → Bool} {i : Nat} (h : (l.take i).all p = true) (hi : ¬ i < l.length) : l.all p = true := by
  rw [List.take_of_length_le (by omega)] at h; exact h
abbrev Pc := Int × Int
def pcE (p : Pc) : List Value := [.int .i64 p.1, .int .i64 p.2]
def dscE (d : Dsc) : List Value := [.int .i64 d.1, .int .i64 d.2.1, .int .i64 d.2.2.1, .int .i64 d.2.2.2.1, .int .i64 d.2.2.2.2.1, .int .i64 d.2.2.2.2.2]
def pcOk (p : Pc) : Bool := decide (0 ≤ p.1) && inB p.2 0 4096
def pcsOk (l : List Pc) : Bool := l.all pcOk && decide (l.length ≤ 16)
theorem pcOk_no {p : Pc} (h : p.1 < 0 ∨ inB p.2 0 4096 = false) : pcOk p = false := by
  unfold pcOk
  rcases h with h | h
  · rw [decide_eq_false (by omega)]; rfl
  · rw [h, Bool.and_false]
theorem pcOk_yes {p : Pc} (h1 : 0 ≤ p.1) (h2 : inB p.2 0 4096 = true) : pcOk p = true := by
  unfold pcOk
  rw [decide_eq_true h1, h2]; rfl
theorem pcsOk_end {l : List Pc} {i : Nat} (h : (l.take i).all pcOk = true) (hi : ¬ i < l.length) : pcsOk l = decide ((l.length : Int) ≤ 16) := by
  unfold pcsOk
  rw [all_end h hi, Bool.true_and]
  congr 1
  exact propext ⟨fun h => by omega, fun h => by omega⟩
theorem pcsOk_bad {l : List Pc} {i : Nat} (hi : i < l.length) (h : (at' l i).1 < 0 ∨ inB (at' l i).2 0 4096 = false) : pcsOk l = false := by
  unfold pcsOk
  rw [all_bad hi (pcOk_no h)]; rfl
theorem pcsOk_iff {l : List Pc} : pcsOk l = true ↔ (∀ i, i < l.length → 0 ≤ (at' l i).1 ∧ 0 ≤ (at' l i).2 ∧ (at' l i).2 ≤ 4096) ∧ l.length ≤ 16 := by
  unfold pcsOk
  rw [Bool.and_eq_true, decide_eq_true_eq, List.all_eq_true]
  constructor
  · rintro ⟨h1, h2⟩
    refine ⟨fun i hi => ?_, h2⟩
    have := h1 l[i] (List.getElem_mem hi)
    rw [← atq_eq hi] at this
    unfold pcOk at this
    rw [Bool.and_eq_true, decide_eq_true_eq, inB_iff] at this
    exact ⟨this.1, this.2.1, this.2.2⟩
  · rintro ⟨h1, h2⟩
    refine ⟨fun x hx => ?_, h2⟩
    obtain ⟨i, hi, rfl⟩ := List.getElem_of_mem hx
    have := h1 i hi
    rw [atq_eq hi] at this
    unfold pcOk
    rw [Bool.and_eq_true, decide_eq_true_eq, inB_iff]
    exact ⟨this.1, this.2.1, this.2.2⟩
def dOk (d : Dsc) : Bool := descB d.1 d.2.1 d.2.2.1 d.2.2.2.1 d.2.2.2.2.1 d.2.2.2.2.2
def dAt (l : List Pc) (size ck : Int) : Nat → Dsc
  | 0 => (2, 0, 0, 0, size, ck)
  | i + 1 => (1, if i + 1 = l.length then 1 else 0, (at' l i).2, (at' l i).1, 0, ck)
def dsF (l : List Pc) (size ck : Int) (n : Nat) : List Dsc := (List.range n).map (dAt l size ck)
theorem dsF_stp (l : List Pc) (size ck : Int) (n : Nat) : dsF l size ck n ++ [dAt l size ck n] = dsF l size ck (n + 1) := by
  unfold dsF
  rw [List.range_succ, List.map_append]; rfl
theorem dsF_len (l : List Pc) (size ck : Int) (n : Nat) : (dsF l size ck n).length = n := by unfold dsF; rw [List.length_map, List.length_range]
theorem dsF_at {l : List Pc} {size ck : Int} {n i : Nat} (h : i < n) : at' (dsF l size ck n) i = dAt l size ck i := by
  rw [atq_eq (by rw [dsF_len]; exact h)]
  unfold dsF
  rw [List.getElem_map, List.getElem_range]
def descrB (l : List Pc) (size ck : Int) : Bool := !decide (l = []) && (pcsOk l && (inB size 1 128 && (dsF l size ck (l.length + 1)).all dOk))
def descrF (l : List Pc) (size ck : Int) : List Dsc := if descrB l size ck then dsF l size ck (l.length + 1) else []
theorem descr_n {l : List Pc} {size ck : Int} (h : l = [] ∨ pcsOk l = false ∨ inB size 1 128 = false ∨ (dsF l size ck (l.length + 1)).all dOk = false) : descrF l size ck = [] := by
  refine if_neg ?_
  unfold descrB
  rcases h with h | h | h | h
  · rw [decide_eq_true h]; simp
  · rw [h]; simp
  · rw [h]; simp
  · rw [h]; simp
theorem descr_y {l : List Pc} {size ck : Int} (h1 : ¬ l = []) (h2 : pcsOk l = true) (h3 : inB size 1 128 = true) (h4 : (dsF l size ck (l.length + 1)).all dOk = true) : descrF l size ck = dsF l size ck (l.length + 1) := by
  refine if_pos ?_
  unfold descrB
  rw [decide_eq_false h1, h2, h3, h4]; rfl
theorem descr_bad {l : List Pc} {size ck : Int} {i : Nat} (hi : i < l.length + 1) (h : dOk (dAt l size ck i) = false) : descrF l size ck = [] := by
  refine descr_n (.inr (.inr (.inr ?_)))
  exact all_bad (i := i) (by rw [dsF_len]; exact hi) (by rw [dsF_at hi]; exact h)
theorem descrF_le (l : List Pc) (size ck : Int) : (descrF l size ck).length ≤ l.length + 1 := by
  unfold descrF
  split
  · rw [dsF_len]; exact Nat.le_refl _
  · exact Nat.zero_le _
def podP (d : Dsc) : Pc := (d.2.2.2.1, d.2.2.1)
def podL (l : List Dsc) : List Pc := (l.drop 1).map podP
def podB (l : List Dsc) : Bool := decide (2 ≤ l.length) && decide (descrF (podL l) (at' l 0).2.2.2.2.1 (at' l 0).2.2.2.2.2 = l)
def podF (l : List Dsc) : List Pc := if podB l then podL l else []
def podS (l : List Dsc) : Int := if podB l then (at' l 0).2.2.2.2.1 else 0
def podC (l : List Dsc) : Int := if podB l then (at' l 0).2.2.2.2.2 else 0
theorem podL_len (l : List Dsc) : (podL l).length = l.length - 1 := by unfold podL; rw [List.length_map, List.length_drop]
theorem pod_n {l : List Dsc} (h : l.length < 2 ∨ ¬ descrF (podL l) (at' l 0).2.2.2.2.1 (at' l 0).2.2.2.2.2 = l) : podF l = [] ∧ podS l = 0 ∧ podC l = 0 ∧ podB l = false := by
  have : podB l = false := by
    unfold podB
    rcases h with h | h
    · rw [decide_eq_false (by omega)]; rfl
    · rw [decide_eq_false h]; simp
  unfold podF podS podC
  rw [this]
  exact ⟨rfl, rfl, rfl, rfl⟩
theorem pod_y {l : List Dsc} (h1 : 2 ≤ l.length) (h2 : descrF (podL l) (at' l 0).2.2.2.2.1 (at' l 0).2.2.2.2.2 = l) : podF l = podL l ∧ podS l = (at' l 0).2.2.2.2.1 ∧ podC l = (at' l 0).2.2.2.2.2 ∧ podB l = true := by
  have : podB l = true := by
    unfold podB
    rw [decide_eq_true h1, decide_eq_true h2]; rfl
  unfold podF podS podC
  rw [this]
  exact ⟨rfl, rfl, rfl, rfl⟩
theorem at_drop {α : Type} [Inhabited α] {l : List α} {i k : Nat} : at' (l.drop k) i = at' l (k + i) := by
  unfold at'
  rw [List.getElem?_drop]
theorem podL_stp {l : List Dsc} {i : Nat} (h : i < (l.drop 1).length) : ((l.drop 1).take i).map podP ++ [podP (at' (l.drop 1) i)] = ((l.drop 1).take (i + 1)).map podP := by
  rw [List.take_succ_eq_append_getElem h, List.map_append, atq_eq h]; rfl
theorem podL_end {l : List Dsc} {i : Nat} (h : ¬ i < (l.drop 1).length) : ((l.drop 1).take i).map podP = podL l := by
  rw [List.take_of_length_le (by omega)]; rfl
theorem same_stp {l m : List Dsc} {i : Nat} (h : ∀ j, j < i → at' m j = at' l j) (hi : at' m i = at' l i) : ∀ j, j < i + 1 → at' m j = at' l j := fun j hj => by
  rcases Nat.lt_or_ge j i with g | g
  · exact h j g
  · obtain rfl : j = i := by omega
    exact hi
theorem same_end {l m : List Dsc} {i : Nat} (hl : m.length = l.length) (h : ∀ j, j < i → at' m j = at' l j) (hi : ¬ i < m.length) : m = l := by
  refine List.ext_getElem hl fun j h1 h2 => ?_
  have := h j (by omega)
  rwa [atq_eq h1, atq_eq h2] at this
theorem ceq_dsc (a b : Dsc) : ceqV (dscE a) (dscE b) = decide (a = b) := by
  obtain ⟨a1, a2, a3, a4, a5, a6⟩ := a
  obtain ⟨b1, b2, b3, b4, b5, b6⟩ := b
  rw [Bool.eq_iff_iff]
  simp [ceqV, dscE]
def gath (l : List Mp) (ps : Pg) (d : Int) : List Pc → ByteArray → ByteArray × Bool
  | [], o => (o, true)
  | p :: r, o => if (dmaRF l ps d p.1 p.2).2 = true then gath l ps d r (o ++ (dmaRF l ps d p.1 p.2).1) else (⟨#[]⟩, false)
def gathF (l : List Mp) (ps : Pg) (d : Int) (pcs : List Pc) : ByteArray × Bool := if pcsOk pcs then gath l ps d pcs ⟨#[]⟩ else (⟨#[]⟩, false)
theorem gath_stp {l : List Mp} {ps : Pg} {d : Int} {pcs : List Pc} {i : Nat} {o : ByteArray} {x : ByteArray × Bool} (h : x = gath l ps d (pcs.drop i) o) (hi : i < pcs.length) (hd : (dmaRF l ps d (at' pcs i).1 (at' pcs i).2).2 = true) : x = gath l ps d (pcs.drop (i + 1)) (o ++ (dmaRF l ps d (at' pcs i).1 (at' pcs i).2).1) := by
  rw [h, drop_at hi]
  simp only [gath]
  rw [if_pos hd]
theorem gath_bad {l : List Mp} {ps : Pg} {d : Int} {pcs : List Pc} {i : Nat} {o : ByteArray} {x : ByteArray × Bool} (h : x = gath l ps d (pcs.drop i) o) (hi : i < pcs.length) (hd : (dmaRF l ps d (at' pcs i).1 (at' pcs i).2).2 = false) : x = (⟨#[]⟩, false) := by
  rw [h, drop_at hi]
  simp only [gath]
  rw [if_neg (by rw [hd]; decide)]
theorem gath_end {l : List Mp} {ps : Pg} {d : Int} {pcs : List Pc} {i : Nat} {o : ByteArray} {x : ByteArray × Bool} (h : x = gath l ps d (pcs.drop i) o) (hi : ¬ i < pcs.length) : x = (o, true) := by
  rw [h, List.drop_eq_nil_of_le (by omega)]; rfl
theorem gathF_y {l : List Mp} {ps : Pg} {d : Int} {pcs : List Pc} (h : pcsOk pcs = true) : gathF l ps d pcs = gath l ps d pcs ⟨#[]⟩ := if_pos h
theorem gathF_n {l : List Mp} {ps : Pg} {d : Int} {pcs : List Pc} (h : pcsOk pcs = false) : gathF l ps d pcs = (⟨#[]⟩, false) := if_neg (by rw [h]; decide)
theorem dmaRF_le (l : List Mp) (ps : Pg) (d a n : Int) (hn : n ≤ 4096) : (dmaRF l ps d a n).1.size ≤ 4096 := by
  cases hq : (dmaRF l ps d a n).2 with
  | true =>
    have := dmaRF_size (l := l) (ps := ps) (d := d) (a := a) (n := n) (t := (dmaRF l ps d a n).1) (by rw [← hq])
    omega
  | false =>
    have : (dmaRF l ps d a n).1 = ⟨#[]⟩ := by
      unfold dmaRF at hq ⊢
      split <;> rename_i e
      · rw [e] at hq; cases hq
      · rfl
    rw [this]; exact Nat.zero_le _
def Pk.part (p : Pk) (size : Int) (k : Nat) : Pk :=
  { p with body := p.body.extract ((k : Int) * size).toNat (min (p.body.size : Int) (((k : Int) + 1) * size)).toNat, seq := (p.seq + (k : Int) * size) % 4294967296, id := (p.id + k) % 65536, fl := if ((k : Int) + 1) * size < (p.body.size : Int) then andNotI p.fl 9 else p.fl }
def spN (p : Pk) (size : Int) : Nat := (((p.body.size : Int) + size - 1) / size).toNat
def splitF (p : Pk) (size : Int) : List Pk :=
  if p.sup && inB size 1 128 then
    if p.kind = 6 ∧ size < (p.body.size : Int) then (List.range (spN p size)).map (p.part size) else [p]
  else []
def pkE (p : Pk) : List Value := [.int .i64 p.dm, .int .i64 p.sm, .int .i64 p.vl, .int .i64 p.tos, .int .i64 p.id, .int .i64 p.ttl, .int .i64 p.si, .int .i64 p.di, .int .i64 p.kind, .int .i64 p.sp, .int .i64 p.dp, .int .i64 p.seq, .int .i64 p.ack, .int .i64 p.fl, .int .i64 p.win, .string p.body]
theorem split_cnt {n size : Int} {k : Nat} (h1 : 1 ≤ size) (h2 : ¬ (k : Int) * size < n) (h3 : 0 < k → ((k : Int) - 1) * size < n) (h4 : 0 < n) : ((n + size - 1) / size).toNat = k := by
  have hk : 0 < k := by
    rcases Nat.eq_zero_or_pos k with rfl | h
    · simp at h2; omega
    · exact h
  have h5 := h3 hk
  have e : ((k : Int) - 1) * size = (k : Int) * size - size := by rw [Int.sub_mul, Int.one_mul]
  rw [e] at h5
  have q : (n + size - 1) / size = k := by
    rw [show n + size - 1 = (n + size - 1 - (k : Int) * size) + (k : Int) * size by omega, Int.add_mul_ediv_right _ _ (by omega), Int.ediv_eq_zero_of_lt (by omega) (by omega), Int.zero_add]
  rw [q]; rfl
theorem part_stp (p : Pk) (size : Int) (k : Nat) : (List.range k).map (p.part size) ++ [p.part size k] = (List.range (k + 1)).map (p.part size) := by
  rw [List.range_succ, List.map_append]; rfl
theorem split_0 {p : Pk} {size : Int} (h : p.sup = false ∨ inB size 1 128 = false) : splitF p size = [] := by
  unfold splitF
  rcases h with h | h <;> rw [h] <;> simp
theorem split_1 {p : Pk} {size : Int} (h1 : p.sup = true) (h2 : inB size 1 128 = true) (h : ¬ p.kind = 6 ∨ (p.body.size : Int) ≤ size) : splitF p size = [p] := by
  unfold splitF
  rw [h1, h2, Bool.and_self, if_pos rfl, if_neg]
  rintro ⟨a, b⟩
  rcases h with h | h
  · exact h a
  · omega
theorem split_n {p : Pk} {size : Int} (h1 : p.sup = true) (h2 : inB size 1 128 = true) (h3 : p.kind = 6) (h4 : size < (p.body.size : Int)) {k : Nat} (h5 : ¬ (k : Int) * size < p.body.size) (h6 : 0 < k → ((k : Int) - 1) * size < p.body.size) : splitF p size = (List.range k).map (p.part size) := by
  have hs := inB_iff.1 h2
  unfold splitF
  rw [h1, h2, Bool.and_self, if_pos rfl, if_pos ⟨h3, h4⟩, spN, split_cnt (by omega) h5 h6 (by omega)]
def stepN (c : Nat) : Nat := if c % 2 = 1 then (c / 2) ^^^ 3988292384 else c / 2
def stepK (c : Nat) : Nat → Nat
  | 0 => c
  | k + 1 => stepN (stepK c k)
def crcN (s : ByteArray) : Nat → Nat
  | 0 => 4294967295
  | i + 1 => stepK (crcN s i ^^^ bAt s i) 8
theorem stepN_lt {c : Nat} (h : c < 4294967296) : stepN c < 4294967296 := by
  unfold stepN
  split
  · exact Nat.xor_lt_two_pow (n := 32) (by omega) (by omega)
  · omega
theorem stepK_lt {c : Nat} (h : c < 4294967296) : ∀ k, stepK c k < 4294967296
  | 0 => h
  | k + 1 => stepN_lt (stepK_lt h k)
theorem crcN_lt (s : ByteArray) : ∀ i, crcN s i < 4294967296
  | 0 => by unfold crcN; omega
  | i + 1 => stepK_lt (Nat.xor_lt_two_pow (n := 32) (crcN_lt s i) (by have := bAt_lt s i; omega)) 8
def crcF (s : ByteArray) : Int := 4294967295 - (crcN s s.size : Nat)
theorem crcF_bd (s : ByteArray) : 0 ≤ crcF s ∧ crcF s ≤ 4294967295 := by
  have := crcN_lt s s.size
  unfold crcF; omega
def fcsF (s : ByteArray) : ByteArray := s ++ strOfNums [crcF s % 256, crcF s / 256 % 256, crcF s / 65536 % 256, crcF s / 16777216 % 256]
def Pk.ok (p : Pk) : Bool := p.sup && decide (p.body.size ≤ 128)
def frF (p : Pk) : ByteArray := if p.ok then fcsF p.im else ⟨#[]⟩
instance : Inhabited Pk := ⟨pk0⟩
def framesF (l : List Pk) : List ByteArray := (l.filter Pk.ok).map frF
theorem frames_y {l : List Pk} {i : Nat} (hi : i < l.length) (h : (at' l i).ok = true) : framesF (l.take i) ++ [frF (at' l i)] = framesF (l.take (i + 1)) := by
  unfold framesF
  rw [List.take_succ_eq_append_getElem hi, List.filter_append, List.map_append, ← atq_eq hi]
  simp [h]
theorem frames_n {l : List Pk} {i : Nat} (hi : i < l.length) (h : (at' l i).ok = false) : framesF (l.take i) = framesF (l.take (i + 1)) := by
  unfold framesF
  rw [List.take_succ_eq_append_getElem hi, List.filter_append, List.map_append, ← atq_eq hi]
  simp [h]
theorem frames_end {l : List Pk} {i : Nat} (hi : ¬ i < l.length) : framesF (l.take i) = framesF l := by
  rw [List.take_of_length_le (by omega)]
theorem frames_le (l : List Pk) : (framesF l).length ≤ l.length := by
  unfold framesF
  rw [List.length_map]
  exact List.length_filter_le ..
end Go.Proofs.YtgbjkojgjhcabaaGreat
end
section
namespace Go.Proofs.YtgbjkojgjhcabaaGreat
open Go Go.RowKit Go.Vc
set_option linter.unusedVariables false
set_option linter.unusedSimpArgs false
set_option linter.unnecessarySimpa false
theorem rt_true {l : List Mp} {ps : Pg} {d b s : Int} {h t : Int} (q : ringOkB b s h t = true) (hr : (rtakeF l ps d b s h t).2.2 = true) : (rtakeF l ps d b s h t).2.1 = rnext s h ∧ ringOkB b s (rnext s h) t = true ∧ usedF s (rnext s h) t = usedF s h t - 1 ∧ (rtakeF l ps d b s h t).1.size ≤ 16 := by
  by_cases hu : usedF s h t = 0
  · rw [rt_n (.inr (.inl hu))] at hr; cases hr
  rcases Bool.eq_false_or_eq_true (dmaRF l ps d (rslot b s h) 16).2 with g3 | g3
  · rw [rt_y q hu g3]
    obtain ⟨hs, b0, b1, s0, s1, h0, h1, t0, t1, u1, u0⟩ := ringOk_facts q
    have hz := dmaRF_size (l := l) (ps := ps) (d := d) (a := rslot b s h) (n := 16) (t := (dmaRF l ps d (rslot b s h) 16).1) (by rw [← g3])
    have hsz := sizeB_cases hs
    have hu2 := hu
    unfold usedF at hu2 ⊢
    unfold rnext
    have key : 0 ≤ (h + 1) % (2 * s) ∧ (h + 1) % (2 * s) ≤ 2 * s - 1 ∧ (t - (h + 1) % (2 * s)) % (2 * s) = (t - h) % (2 * s) - 1 := by
      rcases hsz with rfl | rfl | rfl | rfl <;> omega
    obtain ⟨k1, k2, k3⟩ := key
    refine ⟨rfl, ?_, k3, by simp only; omega⟩
    simp only [ringOkB, Bool.and_eq_true, inB_iff, decide_eq_true_eq]
    refine ⟨⟨⟨⟨⟨b0, b1⟩, hs⟩, k1, k2⟩, t0, t1⟩, by omega⟩
  · rw [rt_n (.inr (.inr g3))] at hr; cases hr
theorem rt_sz (l : List Mp) (ps : Pg) (d b s : Int) (h t : Int) : (rtakeF l ps d b s h t).1.size ≤ 16 := by
  by_cases g1 : ringOkB b s h t = true
  · rcases Bool.eq_false_or_eq_true (rtakeF l ps d b s h t).2.2 with g | g
    · exact (rt_true g1 g).2.2.2
    · by_cases g2 : usedF s h t = 0
      · rw [rt_n (.inr (.inl g2))]; exact Nat.zero_le _
      · rcases Bool.eq_false_or_eq_true (dmaRF l ps d (rslot b s h) 16).2 with g3 | g3
        · rw [rt_y g1 g2 g3] at g; cases g
        · rw [rt_n (.inr (.inr g3))]; exact Nat.zero_le _
  · rw [rt_n (.inl (by simpa using g1))]; exact Nat.zero_le _
def dsc1 (l : List Mp) (ps : Pg) (d b s : Int) (t h : Int) : Dsc × Bool := decDF (rtakeF l ps d b s h t).1
def chn (l : List Mp) (ps : Pg) (d b s : Int) (t : Int) : Nat → Int → List Dsc → Option (List Dsc × Int)
  | 0, h, out => some (out, h)
  | n + 1, h, out =>
    if (rtakeF l ps d b s h t).2.2 = true ∧ (dsc1 l ps d b s t h).2 = true then
      if (dsc1 l ps d b s t h).1.1 = 1 ∧ (dsc1 l ps d b s t h).1.2.1 % 2 = 1 then some (out ++ [(dsc1 l ps d b s t h).1], rnext s h)
      else chn l ps d b s t n (rnext s h) (out ++ [(dsc1 l ps d b s t h).1])
    else none
theorem chn_no {l : List Mp} {ps : Pg} {d b s : Int} {t h : Int} {n : Nat} {out : List Dsc} (hn : 0 < n) (h1 : (rtakeF l ps d b s h t).2.2 = false ∨ (dsc1 l ps d b s t h).2 = false) : chn l ps d b s t n h out = none := by
  obtain ⟨n, rfl⟩ : ∃ m, n = m + 1 := ⟨n - 1, by omega⟩
  simp only [chn]
  rw [if_neg]
  rintro ⟨a, b⟩
  rcases h1 with h1 | h1
  · rw [h1] at a; cases a
  · rw [h1] at b; cases b
theorem chn_last {l : List Mp} {ps : Pg} {d b s : Int} {t h : Int} {n : Nat} {out : List Dsc} (hn : 0 < n) (h1 : (rtakeF l ps d b s h t).2.2 = true) (h2 : (dsc1 l ps d b s t h).2 = true) (h3 : (dsc1 l ps d b s t h).1.1 = 1) (h4 : (dsc1 l ps d b s t h).1.2.1 % 2 = 1) : chn l ps d b s t n h out = some (out ++ [(dsc1 l ps d b s t h).1], rnext s h) := by
  obtain ⟨n, rfl⟩ : ∃ m, n = m + 1 := ⟨n - 1, by omega⟩
  simp only [chn]
  rw [if_pos ⟨h1, h2⟩, if_pos ⟨h3, h4⟩]
theorem chn_go {l : List Mp} {ps : Pg} {d b s : Int} {t h : Int} {n : Nat} {out : List Dsc} (hn : 0 < n) (h1 : (rtakeF l ps d b s h t).2.2 = true) (h2 : (dsc1 l ps d b s t h).2 = true) (h3 : ¬ ((dsc1 l ps d b s t h).1.1 = 1 ∧ (dsc1 l ps d b s t h).1.2.1 % 2 = 1)) : chn l ps d b s t n h out = chn l ps d b s t (n - 1) (rnext s h) (out ++ [(dsc1 l ps d b s t h).1]) := by
  obtain ⟨n, rfl⟩ : ∃ m, n = m + 1 := ⟨n - 1, by omega⟩
  simp only [chn]
  rw [if_pos ⟨h1, h2⟩, if_neg h3]
  rfl
def tcF (l : List Mp) (ps : Pg) (d b s : Int) (h t : Int) : List Dsc × Int × Bool :=
  if ringOkB b s h t = true ∧ ¬ usedF s h t = 0 then
    match chn l ps d b s t (usedF s h t).toNat h [] with
    | some x => (x.1, x.2, true)
    | none => ([], t, false)
  else ([], h, false)
theorem tc_n {l : List Mp} {ps : Pg} {d b s : Int} {h t : Int} (hh : ringOkB b s h t = false ∨ usedF s h t = 0) : tcF l ps d b s h t = ([], h, false) := by
  unfold tcF
  rw [if_neg]
  rintro ⟨h1, h2⟩
  rcases hh with hh | hh
  · rw [hh] at h1; cases h1
  · exact h2 hh
theorem tc_f {l : List Mp} {ps : Pg} {d b s : Int} {h t : Int} (h1 : ringOkB b s h t = true) (h2 : ¬ usedF s h t = 0) (h3 : chn l ps d b s t (usedF s h t).toNat h [] = none) : tcF l ps d b s h t = ([], t, false) := by
  unfold tcF
  rw [if_pos ⟨h1, h2⟩, h3]
theorem tc_y {l : List Mp} {ps : Pg} {d b s : Int} {h t : Int} {o : List Dsc} {h9 : Int} (h1 : ringOkB b s h t = true) (h2 : ¬ usedF s h t = 0) (h3 : chn l ps d b s t (usedF s h t).toNat h [] = some (o, h9)) : tcF l ps d b s h t = (o, h9, true) := by
  unfold tcF
  rw [if_pos ⟨h1, h2⟩, h3]
theorem used_bd {b s h t : Int} (q : ringOkB b s h t = true) : 0 ≤ usedF s h t ∧ usedF s h t ≤ 16 := by
  obtain ⟨hs, b0, b1, s0, s1, h0, h1, t0, t1, u1, u0⟩ := ringOk_facts q
  unfold usedF
  have hsz := sizeB_cases hs
  rcases hsz with rfl | rfl | rfl | rfl <;> omega
theorem chn_dec {l : List Mp} {ps : Pg} {d b s : Int} {t : Int} : ∀ (n : Nat) {h : Int} {out o : List Dsc} {h9 : Int}, ringOkB b s h t = true → n = (usedF s h t).toNat → chn l ps d b s t n h out = some (o, h9) → ringOkB b s h9 t = true ∧ usedF s h9 t ≤ usedF s h t ∧ (0 < n → usedF s h9 t < usedF s h t) ∧ o.length ≤ out.length + n
  | 0, h, out, o, h9, q, hn, hc => by
    simp only [chn, Option.some.injEq, Prod.mk.injEq] at hc
    obtain ⟨rfl, rfl⟩ := hc
    exact ⟨q, Int.le_refl _, fun h => by omega, by omega⟩
  | n + 1, h, out, o, h9, q, hn, hc => by
    have hb := used_bd q
    by_cases g1 : (rtakeF l ps d b s h t).2.2 = true
    · by_cases g2 : (dsc1 l ps d b s t h).2 = true
      · obtain ⟨_, q2, u2, _⟩ := rt_true q g1
        by_cases g3 : (dsc1 l ps d b s t h).1.1 = 1 ∧ (dsc1 l ps d b s t h).1.2.1 % 2 = 1
        · rw [chn_last (by omega) g1 g2 g3.1 g3.2] at hc
          simp only [Option.some.injEq, Prod.mk.injEq] at hc
          obtain ⟨rfl, rfl⟩ := hc
          exact ⟨q2, by omega, fun _ => by omega, by simp only [List.length_append, List.length_cons, List.length_nil]; omega⟩
        · rw [chn_go (by omega) g1 g2 g3] at hc
          obtain ⟨a1, a2, a3, a4⟩ := chn_dec n q2 (by omega) hc
          refine ⟨a1, by omega, fun _ => by omega, ?_⟩
          simp only [List.length_append, List.length_cons, List.length_nil] at a4
          omega
      · rw [chn_no (by omega) (.inr (by simpa using g2))] at hc; cases hc
    · rw [chn_no (by omega) (.inl (by simpa using g1))] at hc; cases hc
theorem ring_tt {b s h t : Int} (q : ringOkB b s h t = true) : ringOkB b s t t = true ∧ usedF s t t = 0 := by
  obtain ⟨hs, b0, b1, s0, s1, h0, h1, t0, t1, u1, u0⟩ := ringOk_facts q
  have e : usedF s t t = 0 := by unfold usedF; rw [Int.sub_self]; exact Int.zero_emod _
  refine ⟨?_, e⟩
  simp only [ringOkB, Bool.and_eq_true, inB_iff, decide_eq_true_eq]
  unfold usedF at e
  exact ⟨⟨⟨⟨⟨b0, b1⟩, hs⟩, t0, t1⟩, t0, t1⟩, by omega⟩
theorem tc_dec {l : List Mp} {ps : Pg} {d b s : Int} {h t : Int} (q : ringOkB b s h t = true) (hu : ¬ usedF s h t = 0) : ringOkB b s (tcF l ps d b s h t).2.1 t = true ∧ usedF s (tcF l ps d b s h t).2.1 t < usedF s h t ∧ (tcF l ps d b s h t).1.length ≤ 16 := by
  have hb := used_bd q
  cases hc : chn l ps d b s t (usedF s h t).toNat h [] with
  | none =>
    rw [tc_f q hu hc]
    obtain ⟨a, b⟩ := ring_tt q
    exact ⟨a, by simp only; omega, by simp⟩
  | some x =>
    obtain ⟨o, h9⟩ := x
    rw [tc_y q hu hc]
    obtain ⟨a1, a2, a3, a4⟩ := chn_dec _ q rfl hc
    exact ⟨a1, a3 (by omega), by simp only [List.length_nil] at a4 ⊢; omega⟩
theorem tc_len (l : List Mp) (ps : Pg) (d b s : Int) (h t : Int) : (tcF l ps d b s h t).1.length ≤ 16 := by
  by_cases q : ringOkB b s h t = true
  · by_cases hu : usedF s h t = 0
    · rw [tc_n (.inr hu)]; simp
    · exact (tc_dec q hu).2.2
  · rw [tc_n (.inl (by simpa using q))]; simp
def txI (l : List Mp) (ps : Pg) (d b s : Int) (h t : Int) : ByteArray := fsF (gathF l ps d (podL (tcF l ps d b s h t).1)).1
def txB (l : List Mp) (ps : Pg) (d b s : Int) (h t : Int) : Bool := (tcF l ps d b s h t).2.2 && (podB (tcF l ps d b s h t).1 && ((gathF l ps d (podL (tcF l ps d b s h t).1)).2 && (fsB (gathF l ps d (podL (tcF l ps d b s h t).1)).1 && decide (rdC (txI l ps d b s h t) = 0))))
def txF (l : List Mp) (ps : Pg) (d b s : Int) (h t : Int) : Int × List ByteArray × Int :=
  if ringOkB b s h t = true ∧ ¬ usedF s h t = 0 then
    if txB l ps d b s h t = true then ((tcF l ps d b s h t).2.1, framesF (splitF (rdF (txI l ps d b s h t)) (podS (tcF l ps d b s h t).1)), 1)
    else ((tcF l ps d b s h t).2.1, [], 2)
  else (h, [], 0)
theorem tx_0 {l : List Mp} {ps : Pg} {d b s : Int} {h t : Int} (hh : ringOkB b s h t = false ∨ usedF s h t = 0) : txF l ps d b s h t = (h, [], 0) := by
  unfold txF
  rw [if_neg]
  rintro ⟨h1, h2⟩
  rcases hh with hh | hh
  · rw [hh] at h1; cases h1
  · exact h2 hh
theorem tx_2 {l : List Mp} {ps : Pg} {d b s : Int} {h t : Int} (h1 : ringOkB b s h t = true) (h2 : ¬ usedF s h t = 0) (h3 : txB l ps d b s h t = false) : txF l ps d b s h t = ((tcF l ps d b s h t).2.1, [], 2) := by
  unfold txF
  rw [if_pos ⟨h1, h2⟩, if_neg (by rw [h3]; decide)]
theorem tx_1 {l : List Mp} {ps : Pg} {d b s : Int} {h t : Int} (h1 : ringOkB b s h t = true) (h2 : ¬ usedF s h t = 0) (h3 : txB l ps d b s h t = true) : txF l ps d b s h t = ((tcF l ps d b s h t).2.1, framesF (splitF (rdF (txI l ps d b s h t)) (podS (tcF l ps d b s h t).1)), 1) := by
  unfold txF
  rw [if_pos ⟨h1, h2⟩, if_pos h3]
theorem sup_len {p : Pk} (h : p.sup = true) : p.body.size ≤ 320 := (superOk_facts h).2.2.2.2.2.2.2.2.2
theorem split_le (p : Pk) (size : Int) : (splitF p size).length ≤ 320 := by
  unfold splitF
  split
  · rename_i h
    rw [Bool.and_eq_true] at h
    have h1 := sup_len h.1
    have h2 := inB_iff.1 h.2
    split
    · rw [List.length_map, List.length_range]
      unfold spN
      have : ((p.body.size : Int) + size - 1) / size ≤ 320 := by
        apply Int.ediv_le_of_le_mul (by omega)
        have : (320 : Int) ≤ 320 * size := by omega
        have e : (320 : Int) * size = 319 * size + size := by omega
        omega
      omega
    · simp
  · simp
def usedB (b s h t : Int) : Nat := if ringOkB b s h t then (usedF s h t).toNat else 0
theorem usedB_le (b s h t : Int) : usedB b s h t ≤ 16 := by
  unfold usedB
  split
  · rename_i h1
    have := used_bd h1
    omega
  · omega
theorem tx_dec {l : List Mp} {ps : Pg} {d b s : Int} {h t : Int} (hc : ¬ (txF l ps d b s h t).2.2 = 0) : usedB b s (txF l ps d b s h t).1 t < usedB b s h t ∧ (txF l ps d b s h t).2.1.length ≤ 320 := by
  by_cases q : ringOkB b s h t = true
  · by_cases hu : usedF s h t = 0
    · rw [tx_0 (.inr hu)] at hc; exact (hc rfl).elim
    · obtain ⟨a1, a2, _⟩ := tc_dec (l := l) (ps := ps) (d := d) q hu
      have b1 := used_bd q
      have b2 := used_bd a1
      have hlt : usedB b s (tcF l ps d b s h t).2.1 t < usedB b s h t := by
        unfold usedB
        rw [if_pos q, if_pos a1]; omega
      by_cases g : txB l ps d b s h t = true
      · rw [tx_1 q hu g]
        exact ⟨hlt, Nat.le_trans (frames_le _) (split_le _ _)⟩
      · rw [tx_2 q hu (by simpa using g)]
        exact ⟨hlt, by simp⟩
  · rw [tx_0 (.inl (by simpa using q))] at hc; exact (hc rfl).elim
def txAll (l : List Mp) (ps : Pg) (d b s : Int) (t : Int) : Nat → Int → List ByteArray → Int → Int → Int × List ByteArray × Int × Int
  | 0, h, o, x, y => (h, o, x, y)
  | n + 1, h, o, x, y => if (txF l ps d b s h t).2.2 = 0 then (h, o, x, y) else txAll l ps d b s t n (txF l ps d b s h t).1 (o ++ (txF l ps d b s h t).2.1) (if (txF l ps d b s h t).2.2 = 1 then x + 1 else x) (if (txF l ps d b s h t).2.2 = 1 then y else y + 1)
theorem txA_end {l : List Mp} {ps : Pg} {d b s : Int} {t h x y : Int} {n : Nat} {o : List ByteArray} (hc : (txF l ps d b s h t).2.2 = 0) : txAll l ps d b s t n h o x y = (h, o, x, y) := by
  cases n with
  | zero => rfl
  | succ n => simp only [txAll]; rw [if_pos hc]
theorem txA_go {l : List Mp} {ps : Pg} {d b s : Int} {t h x y : Int} {n : Nat} {o : List ByteArray} (hn : 0 < n) (hc : ¬ (txF l ps d b s h t).2.2 = 0) : txAll l ps d b s t n h o x y = txAll l ps d b s t (n - 1) (txF l ps d b s h t).1 (o ++ (txF l ps d b s h t).2.1) (if (txF l ps d b s h t).2.2 = 1 then x + 1 else x) (if (txF l ps d b s h t).2.2 = 1 then y else y + 1) := by
  obtain ⟨n, rfl⟩ : ∃ m, n = m + 1 := ⟨n - 1, by omega⟩
  simp only [txAll]
  rw [if_neg hc]; rfl
def txAF (l : List Mp) (ps : Pg) (d b s : Int) (h t : Int) : Int × List ByteArray × Int × Int := txAll l ps d b s t 17 h [] 0 0
end Go.Proofs.YtgbjkojgjhcabaaGreat
end
section
namespace Go.Proofs.YtgbjkojgjhcabaaGreat
open Go Go.RowKit Go.Vc
set_option linter.unusedVariables false
set_option linter.unusedSimpArgs false
set_option linter.unnecessarySimpa false
theorem u32_nat {n : Nat} (h : n < 4294967296) : (BitVec.ofInt 32 (n : Int)).toNat = n := by
  rw [BitVec.ofInt_natCast, BitVec.toNat_ofNat]; exact Nat.mod_eq_of_lt (by omega)
theorem u32_wr {n : Int} (h0 : 0 ≤ n) (h : n < 4294967296) : IntKind.u32.wrap n = n := by
  exact IntWalk.u32_in _ ⟨h0, by omega⟩
theorem ux_eq {a b : Nat} (ha : a < 4294967296) (hb : b < 4294967296) : Go.bits .xor .u32 (a : Int) (b : Int) = ((a ^^^ b : Nat) : Int) := by
  have hx : a ^^^ b < 2 ^ 32 := Nat.xor_lt_two_pow (by omega) (by omega)
  show IntKind.u32.wrap ((BitVec.ofInt 32 (a : Int) ^^^ BitVec.ofInt 32 (b : Int)).toNat : Int) = _
  rw [BitVec.toNat_xor, u32_nat ha, u32_nat hb, u32_wr (by omega) (by omega)]
theorem ua_eq {a : Nat} (ha : a < 4294967296) : Go.bits .and .u32 (a : Int) 1 = ((a % 2 : Nat) : Int) := by
  show IntKind.u32.wrap ((BitVec.ofInt 32 (a : Int) &&& BitVec.ofInt 32 ((1 : Nat) : Int)).toNat : Int) = _
  rw [BitVec.toNat_and, u32_nat ha, u32_nat (by omega), Nat.and_one_is_mod, u32_wr (by omega) (by omega)]
theorem uc_eq {a : Nat} (ha : a < 4294967296) : Go.bits .xor .u32 4294967295 (a : Int) = 4294967295 - (a : Int) := by
  have e : BitVec.ofInt 32 4294967295 = BitVec.allOnes 32 := by decide
  show IntKind.u32.wrap ((BitVec.ofInt 32 4294967295 ^^^ BitVec.ofInt 32 (a : Int)).toNat : Int) = _
  rw [e, BitVec.xor_comm, BitVec.xor_allOnes, BitVec.toNat_not, u32_nat ha, u32_wr (by omega) (by omega)]
  omega
theorem xi_eq {a b : Nat} (ha : a < 4294967296) (hb : b < 4294967296) : xorI (a : Int) (b : Int) = ((a ^^^ b : Nat) : Int) := by
  have hx : a ^^^ b < 2 ^ 32 := Nat.xor_lt_two_pow (by omega) (by omega)
  have e : ∀ n : Nat, n < 4294967296 → (BitVec.ofInt 64 (n : Int)).toNat = n := fun n hn => by
    rw [BitVec.ofInt_natCast, BitVec.toNat_ofNat]; exact Nat.mod_eq_of_lt (by omega)
  show IntKind.i64.wrap ((BitVec.ofInt 64 (a : Int) ^^^ BitVec.ofInt 64 (b : Int)).toNat : Int) = _
  rw [BitVec.toNat_xor, e a ha, e b hb, IntWalk.i64_in _ (by omega)]
theorem st_odd {c : Nat} (h : c % 2 = 1) : stepN c = (c / 2) ^^^ 3988292384 := if_pos h
theorem st_evn {c : Nat} (h : ¬ c % 2 = 1) : stepN c = c / 2 := if_neg h
theorem fcs_eq (s : ByteArray) : strOfNums [IntKind.u8.wrap (crcF s), IntKind.u8.wrap (crcF s / 2 ^ Int.toNat 8), IntKind.u8.wrap (crcF s / 2 ^ Int.toNat 16), IntKind.u8.wrap (crcF s / 2 ^ Int.toNat 24)] = strOfNums [crcF s % 256, crcF s / 256 % 256, crcF s / 65536 % 256, crcF s / 16777216 % 256] := by
  have h := crcF_bd s
  have e8 : (2 : Int) ^ Int.toNat 8 = 256 := by decide
  have e16 : (2 : Int) ^ Int.toNat 16 = 65536 := by decide
  have e24 : (2 : Int) ^ Int.toNat 24 = 16777216 := by decide
  rw [e8, e16, e24]
  simp only [IntKind.wrap_u8]
end Go.Proofs.YtgbjkojgjhcabaaGreat
end
section
namespace Go.Proofs.YtgbjkojgjhcabaaGreat
open Go Go.RowKit Go.Vc
set_option linter.unusedVariables false
set_option linter.unusedSimpArgs false
set_option linter.unnecessarySimpa false
section
variable {P : Program} [TyEnv P] {n : Nat} {ops os : List Oper} {dr : Bool} {K : Tm → Hp → Prop} {t : Tm} {H : Hp} {fp : List Fp} {d : Nat}
theorem vequ {x y : Int} (hw : x = y) (h : Vd P n ops dr K os ((d, .one (.v (.int .u32 y))) :: t) H fp) : Vd P n ops dr K os ((d, .one (.v (.int .u32 x))) :: t) H fp := by
  rw [hw]; exact h
end
theorem u32_byt (s : ByteArray) (i : Nat) : IntKind.u32.wrap (bytI s (i : Int)) = ((bAt s i : Nat) : Int) := by
  have := bAt_lt s i
  rw [bytI_nat, Int.toNat_natCast, u32_wr (by omega) (by omega)]
theorem ux_c {a : Nat} (ha : a < 4294967296) : Go.bits .xor .u32 (a : Int) 3988292384 = ((a ^^^ 3988292384 : Nat) : Int) := ux_eq ha (by decide)
theorem xi_c {a : Nat} (ha : a < 4294967296) : xorI (a : Int) 3988292384 = ((a ^^^ 3988292384 : Nat) : Int) := xi_eq ha (by decide)
theorem xi_b {a : Nat} (ha : a < 4294967296) (s : ByteArray) (i : Nat) : xorI (a : Int) ((bAt s (Int.toNat (i : Nat)) : Nat) : Int) = ((a ^^^ bAt s i : Nat) : Int) := xi_eq ha (by have := bAt_lt s i; show bAt s i < _; omega)
theorem sh1 (a : Nat) : (a : Int) / 2 ^ Int.toNat 1 = ((a / 2 : Nat) : Int) := by
  rw [show (2 : Int) ^ Int.toNat 1 = 2 by decide]; omega
theorem an1 (a : Nat) : andI (a : Int) 1 = ((a % 2 : Nat) : Int) := by
  rw [andI_eq]
  have := and_mask_i64 (a : Int) 1 (by decide)
  rw [show (2 : Int) ^ 1 - 1 = 1 by decide] at this
  rw [this]; rfl
theorem st_s (c k : Nat) : stepK c (k + 1) = stepN (stepK c k) := rfl
set_option maxHeartbeats 4000000 in
theorem c_impl_Crc32 {s : ByteArray} (hs_s : s.size ≤ 1099511627776 := by first | assumption | omega | (simp only [ByteArray.size_append, ByteArray.size_extract, strOfNums_size, List.length_cons, List.length_nil]; omega)) : Con0 Tryz.prog 223 [Z s] (I (crcF s)) [] := by
  refine con_i Tryz.func223 Tryz.ntmps223 (t := [(0, Z s)]) rfl ?_
  refine vc_sr ?_
  refine vo ?_
  refine vnt ?_
  refine vc_sr ?_
  refine vo ?_
  refine vnt ?_
  refine vc_seq' ?_
  refine vc_sr ?_
  refine vo ?_
  refine vnt ?_
  refine vc_block ?_
  refine vc_lp (σ := Nat) [0] [] (fun i => [(3, .one (.v (.int .u32 (crcN s i : Nat)))), (4, I (i : Nat))]) (fun i => []) (fun i => i ≤ s.size) (fun i => s.size - i) 0 rfl rfl (sub_i [] (fz ?_) (fz ?_)) ?_ fun i hI => ?_
  · first | trivial | rfl | exact ⟨rfl, rfl⟩
  · first | trivial | rfl
  · exact Nat.zero_le _
  refine vc_nf rfl rfl ?_
  have hc := crcN_lt s i
  have hb := bAt_lt s i
  refine vc_seq' ?_
  refine vc_sr ?_
  iterate 4 refine vo ?_
  refine vnt ?_
  refine vc_if (fun g1 => ?_) (fun g1 => ?_)
  · refine vc_skip ?_
    refine thn ?_
    refine vc_seq' ?_
    refine vc_block ?_
    refine vc_sr ?_
    iterate 5 refine vo ?_
    try refine veq (i64_byt _ _) ?_
    refine vequ (u32_byt s i) ?_
    refine vo ?_
    refine vequ (ux_eq hc (by omega)) ?_
    refine vo ?_
    refine vnt ?_
    refine vc_sr ?_
    refine vo ?_
    refine vnt ?_
    refine vc_block ?_
    refine vc_lp (σ := Nat) [0, 4] [] (fun k => [(3, .one (.v (.int .u32 (stepK (crcN s i ^^^ bAt s i) k : Nat)))), (5, I (k : Nat))]) (fun k => []) (fun k => k ≤ 8) (fun k => 8 - k) 0 rfl rfl (sub_i [] (fz ?_) (fz ?_)) ?_ fun k hK => ?_
    · first | trivial | rfl | exact ⟨rfl, rfl⟩
    · first | trivial | rfl
    · exact Nat.zero_le _
    refine vc_nf rfl rfl ?_
    have hx : stepK (crcN s i ^^^ bAt s i) k < 4294967296 := stepK_lt (Nat.xor_lt_two_pow (n := 32) hc (by omega)) k
    refine vc_seq' ?_
    refine vc_sr ?_
    iterate 2 refine vo ?_
    refine vnt ?_
    refine vc_if (fun g2 => ?_) (fun g2 => ?_)
    · refine vc_skip ?_
      refine thn ?_
      refine vc_seq' ?_
      refine vc_block ?_
      refine vc_sr ?_
      iterate 2 refine vo ?_
      refine vequ (ua_eq hx) ?_
      iterate 2 refine vo ?_
      refine vnt ?_
      refine vc_sr ?_
      iterate 2 refine vo ?_
      refine vequ (sh1 _) ?_
      refine vo ?_
      refine vnt ?_
      refine vc_sr ?_
      refine vo ?_
      refine vnt ?_
      refine vc_if (fun g3 => ?_) (fun g3 => ?_)
      · refine vc_region ?_
        iterate 2 refine vo ?_
        refine vequ (ux_c (by omega)) ?_
        refine vo ?_
        refine vnil ?_
        refine inB_n ?_
        refine thn ?_
        refine vc_region ?_
        iterate 2 refine vo ?_
        try refine vwr ?_
        refine vo ?_
        refine vnt ?_
        refine ⟨k + 1, ?_, ?_, sub_i [] (fz ?_) (fz ?_)⟩
        · omega
        · omega
        · refine ⟨?_, ?_⟩ <;> first | rfl | (rw [st_s, st_odd (by omega)]) | omega
        · first | trivial | rfl
      · refine vc_skip ?_
        refine inB_n ?_
        refine thn ?_
        refine vc_region ?_
        iterate 2 refine vo ?_
        try refine vwr ?_
        refine vo ?_
        refine vnt ?_
        refine ⟨k + 1, ?_, ?_, sub_i [] (fz ?_) (fz ?_)⟩
        · omega
        · omega
        · refine ⟨?_, ?_⟩ <;> first | rfl | (rw [st_s, st_evn (by omega)]) | omega
        · first | trivial | rfl
    · refine vc_exit ?_
      refine thn_x ?_
      refine thn_x ?_
      refine inB_x ?_
      refine inB_n ?_
      refine thn ?_
      refine vc_region ?_
      iterate 2 refine vo ?_
      try refine vwr ?_
      refine vo ?_
      refine vnt ?_
      refine ⟨i + 1, ?_, ?_, sub_i [] (fz ?_) (fz ?_)⟩
      · omega
      · omega
      · refine ⟨?_, ?_⟩ <;> first | rfl | omega | (rw [show k = 8 by omega]; rfl)
      · first | trivial | rfl
  · refine vc_exit ?_
    refine thn_x ?_
    refine thn_x ?_
    refine inB_x ?_
    refine thn ?_
    refine vc_sr ?_
    iterate 2 refine vo ?_
    refine vequ (uc_eq hc) ?_
    refine vo ?_
    try refine veq (i64_byt _ _) ?_
    refine veq (IntWalk.i64_in _ (by omega)) ?_
    refine vo ?_
    refine vnt ?_
    refine vc_ret ?_
    refine fin_i [] rfl (fz ?_) trivial
    rw [crcF, show s.size = i by omega]
set_option maxHeartbeats 4000000 in
theorem c_impl_WithFcs {s : ByteArray} (hs_s : s.size ≤ 1099511627776 := by first | assumption | omega | (simp only [ByteArray.size_append, ByteArray.size_extract, strOfNums_size, List.length_cons, List.length_nil]; omega)) : Con0 Tryz.prog 216 [Z s] (Z (fcsF s)) [] := by
  refine con_i Tryz.func216 Tryz.ntmps216 (t := [(0, Z s)]) rfl ?_
  refine vc_sr ?_
  refine vo ?_
  refine vnt ?_
  refine vc_sr ?_
  refine vo ?_
  refine voc c_impl_Crc32 rfl rfl ?_
  refine vo ?_
  refine vnt ?_
  refine vc_sr ?_
  iterate 14 refine vo ?_
  refine vs4 ?_
  iterate 2 refine vo ?_
  refine vnt ?_
  refine vc_ret ?_
  refine fin_i [] rfl (fz ?_) trivial
  unfold fcsF; rw [fcs_eq]
set_option maxHeartbeats 4000000 in
theorem c_impl_BuildFrame {p : Pk} (hz_p : p.body.size ≤ 1099511627776 := by first | assumption | omega) : Con0 Tryz.prog 189 [.agg [V (p).dm, V (p).sm, V (p).vl, V (p).tos, V (p).id, V (p).ttl, V (p).si, V (p).di, V (p).kind, V (p).sp, V (p).dp, V (p).seq, V (p).ack, V (p).fl, V (p).win, VS (p).body]] (.tup [Z (frF p), B p.ok]) [] := by
  refine con_i Tryz.func189 Tryz.ntmps189 (t := [(0, .agg [V (p).dm, V (p).sm, V (p).vl, V (p).tos, V (p).id, V (p).ttl, V (p).si, V (p).di, V (p).kind, V (p).sp, V (p).dp, V (p).seq, V (p).ack, V (p).fl, V (p).win, VS (p).body])]) rfl ?_
  refine vc_sr ?_
  iterate 3 refine vo ?_
  refine vnt ?_
  refine vc_seq' ?_
  refine vc_sr ?_
  refine vo ?_
  refine voc c_impl_PacketOk rfl rfl ?_
  refine vo ?_
  refine vnt ?_
  refine vc_if (fun g1 => ?_) (fun g1 => ?_)
  · have g1 : p.ok = false := by first | exact g1 | (unfold Pk.ok Pk.sup; simpa using g1)
    refine vc_sr ?_
    iterate 2 refine vo ?_
    refine vnt ?_
    refine vc_ret ?_
    refine thn_r ?_
    refine fin_i [] rfl (fz ?_) trivial
    have hk : p.ok = false := g1
    rw [frF, hk]
    trivial
  · have hk : p.ok = true := by first | exact g1 | (unfold Pk.ok Pk.sup; simpa using g1)
    have hs : p.sup = true := by unfold Pk.ok at hk; rw [Bool.and_eq_true] at hk; exact hk.1
    have hi := sup_img hs
    have hi2 : (imgR p.dm p.sm p.vl p.tos p.id p.ttl p.si p.di p.kind p.sp p.dp p.seq p.ack p.fl p.win p.body).size ≤ 1000 := hi.2
    refine vc_skip ?_
    refine thn ?_
    refine vc_sr ?_
    refine vo ?_
    refine voc c_impl_BuildImage rfl rfl ?_
    iterate 5 refine vo ?_
    refine vnt ?_
    refine vc_seq' ?_
    refine vc_sr ?_
    iterate 2 refine vo ?_
    refine vnt ?_
    refine vc_if (fun g2 => ?_) (fun g2 => ?_)
    · rw [hi.1] at g2; cases g2
    · refine vc_skip ?_
      refine thn ?_
      refine vc_sr ?_
      refine vo ?_
      refine voc c_impl_WithFcs rfl rfl ?_
      iterate 2 refine vo ?_
      refine vnt ?_
      refine vc_ret ?_
      refine fin_i [] rfl (fz ?_) trivial
      rw [frF, hk]
      trivial
set_option maxHeartbeats 4000000 in
theorem c_spec_Crc32 {s : ByteArray} (hs_s : s.size ≤ 1099511627776 := by first | assumption | omega | (simp only [ByteArray.size_append, ByteArray.size_extract, strOfNums_size, List.length_cons, List.length_nil]; omega)) : Con0 Tryz.prog 221 [Z s] (I (crcF s)) [] := by
  refine con_i Tryz.func221 Tryz.ntmps221 (t := [(0, Z s)]) rfl ?_
  refine vc_sr ?_
  refine vo ?_
  refine vnt ?_
  refine vc_sr ?_
  refine vo ?_
  refine vnt ?_
  refine vc_seq' ?_
  refine vc_sr ?_
  refine vo ?_
  refine vnt ?_
  refine vc_block ?_
  refine vc_lp (σ := Nat) [0] [] (fun i => [(3, I (crcN s i : Nat)), (4, I (i : Nat))]) (fun i => []) (fun i => i ≤ s.size) (fun i => s.size - i) 0 rfl rfl (sub_i [] (fz ?_) (fz ?_)) ?_ fun i hI => ?_
  · first | trivial | rfl | exact ⟨rfl, rfl⟩
  · first | trivial | rfl
  · exact Nat.zero_le _
  refine vc_nf rfl rfl ?_
  have hc := crcN_lt s i
  have hb := bAt_lt s i
  refine vc_seq' ?_
  refine vc_sr ?_
  iterate 4 refine vo ?_
  refine vnt ?_
  refine vc_if (fun g1 => ?_) (fun g1 => ?_)
  · refine vc_skip ?_
    refine thn ?_
    refine vc_seq' ?_
    refine vc_block ?_
    refine vc_sr ?_
    iterate 5 refine vo ?_
    try refine veq (i64_byt _ _) ?_
    refine vo ?_
    refine veq (xi_b hc s i) ?_
    refine vo ?_
    refine vnt ?_
    refine vc_sr ?_
    refine vo ?_
    refine vnt ?_
    refine vc_block ?_
    refine vc_lp (σ := Nat) [0, 4] [] (fun k => [(3, I (stepK (crcN s i ^^^ bAt s i) k : Nat)), (5, I (k : Nat))]) (fun k => []) (fun k => k ≤ 8) (fun k => 8 - k) 0 rfl rfl (sub_i [] (fz ?_) (fz ?_)) ?_ fun k hK => ?_
    · first | trivial | rfl | exact ⟨rfl, rfl⟩
    · first | trivial | rfl
    · exact Nat.zero_le _
    refine vc_nf rfl rfl ?_
    have hx : stepK (crcN s i ^^^ bAt s i) k < 4294967296 := stepK_lt (Nat.xor_lt_two_pow (n := 32) hc (by omega)) k
    refine vc_seq' ?_
    refine vc_sr ?_
    iterate 2 refine vo ?_
    refine vnt ?_
    refine vc_if (fun g2 => ?_) (fun g2 => ?_)
    · refine vc_skip ?_
      refine thn ?_
      refine vc_seq' ?_
      refine vc_block ?_
      refine vc_sr ?_
      iterate 2 refine vo ?_
      refine veq (an1 _) ?_
      refine vo ?_
      refine vnt ?_
      refine vc_if (fun g3 => ?_) (fun g3 => ?_)
      · refine vc_region ?_
        iterate 2 refine vo ?_
        refine veq (sh1 _) ?_
        refine vo ?_
        refine veq (xi_c (by omega)) ?_
        refine vo ?_
        refine vnil ?_
        refine inB_n ?_
        refine thn ?_
        refine vc_region ?_
        iterate 2 refine vo ?_
        try refine vwr ?_
        refine vo ?_
        refine vnt ?_
        refine ⟨k + 1, ?_, ?_, sub_i [] (fz ?_) (fz ?_)⟩
        · omega
        · omega
        · refine ⟨?_, ?_⟩ <;> first | rfl | (rw [st_s, st_odd (by omega)]) | omega
        · first | trivial | rfl
      · refine vc_region ?_
        iterate 2 refine vo ?_
        refine veq (sh1 _) ?_
        refine vo ?_
        refine vnil ?_
        refine inB_n ?_
        refine thn ?_
        refine vc_region ?_
        iterate 2 refine vo ?_
        try refine vwr ?_
        refine vo ?_
        refine vnt ?_
        refine ⟨k + 1, ?_, ?_, sub_i [] (fz ?_) (fz ?_)⟩
        · omega
        · omega
        · refine ⟨?_, ?_⟩ <;> first | rfl | (rw [st_s, st_evn (by omega)]) | omega
        · first | trivial | rfl
    · refine vc_exit ?_
      refine thn_x ?_
      refine thn_x ?_
      refine inB_x ?_
      refine inB_n ?_
      refine thn ?_
      refine vc_region ?_
      iterate 2 refine vo ?_
      try refine vwr ?_
      refine vo ?_
      refine vnt ?_
      refine ⟨i + 1, ?_, ?_, sub_i [] (fz ?_) (fz ?_)⟩
      · omega
      · omega
      · refine ⟨?_, ?_⟩ <;> first | rfl | omega | (rw [show k = 8 by omega]; rfl)
      · first | trivial | rfl
  · refine vc_exit ?_
    refine thn_x ?_
    refine thn_x ?_
    refine inB_x ?_
    refine thn ?_
    refine vc_sr ?_
    iterate 2 refine vo ?_
    try refine vwr ?_
    refine vo ?_
    refine vnt ?_
    refine vc_ret ?_
    refine fin_i [] rfl (fz ?_) trivial
    rw [crcF, show s.size = i by omega]
set_option maxHeartbeats 4000000 in
theorem c_spec_WithFcs {s : ByteArray} (hs_s : s.size ≤ 1099511627776 := by first | assumption | omega | (simp only [ByteArray.size_append, ByteArray.size_extract, strOfNums_size, List.length_cons, List.length_nil]; omega)) : Con0 Tryz.prog 209 [Z s] (Z (fcsF s)) [] := by
  refine con_i Tryz.func209 Tryz.ntmps209 (t := [(0, Z s)]) rfl ?_
  refine vc_sr ?_
  refine vo ?_
  refine vnt ?_
  refine vc_sr ?_
  refine vo ?_
  refine voc c_spec_Crc32 rfl rfl ?_
  refine vo ?_
  refine vnt ?_
  refine vc_sr ?_
  iterate 14 refine vo ?_
  refine vs4 ?_
  iterate 2 refine vo ?_
  refine vnt ?_
  refine vc_ret ?_
  refine fin_i [] rfl (fz ?_) trivial
  unfold fcsF; rw [fcs_eq]
set_option maxHeartbeats 4000000 in
theorem c_spec_BuildFrame {p : Pk} (hz_p : p.body.size ≤ 1099511627776 := by first | assumption | omega) : Con0 Tryz.prog 177 [.agg [V (p).dm, V (p).sm, V (p).vl, V (p).tos, V (p).id, V (p).ttl, V (p).si, V (p).di, V (p).kind, V (p).sp, V (p).dp, V (p).seq, V (p).ack, V (p).fl, V (p).win, VS (p).body]] (.tup [Z (frF p), B p.ok]) [] := by
  refine con_i Tryz.func177 Tryz.ntmps177 (t := [(0, .agg [V (p).dm, V (p).sm, V (p).vl, V (p).tos, V (p).id, V (p).ttl, V (p).si, V (p).di, V (p).kind, V (p).sp, V (p).dp, V (p).seq, V (p).ack, V (p).fl, V (p).win, VS (p).body])]) rfl ?_
  refine vc_sr ?_
  iterate 3 refine vo ?_
  refine vnt ?_
  refine vc_seq' ?_
  refine vc_sr ?_
  refine vo ?_
  refine voc c_spec_PacketOk rfl rfl ?_
  refine vo ?_
  refine vnt ?_
  refine vc_if (fun g1 => ?_) (fun g1 => ?_)
  · have g1 : p.ok = false := by first | exact g1 | (unfold Pk.ok Pk.sup; simpa using g1)
    refine vc_sr ?_
    iterate 2 refine vo ?_
    refine vnt ?_
    refine vc_ret ?_
    refine thn_r ?_
    refine fin_i [] rfl (fz ?_) trivial
    have hk : p.ok = false := g1
    rw [frF, hk]
    trivial
  · have hk : p.ok = true := by first | exact g1 | (unfold Pk.ok Pk.sup; simpa using g1)
    have hs : p.sup = true := by unfold Pk.ok at hk; rw [Bool.and_eq_true] at hk; exact hk.1
    have hi := sup_img hs
    have hi2 : (imgR p.dm p.sm p.vl p.tos p.id p.ttl p.si p.di p.kind p.sp p.dp p.seq p.ack p.fl p.win p.body).size ≤ 1000 := hi.2
    refine vc_skip ?_
    refine thn ?_
    refine vc_sr ?_
    refine vo ?_
    refine voc c_spec_BuildImage rfl rfl ?_
    iterate 5 refine vo ?_
    refine vnt ?_
    refine vc_sr ?_
    refine vo ?_
    refine voc c_spec_WithFcs rfl rfl ?_
    iterate 2 refine vo ?_
    refine vnt ?_
    refine vc_ret ?_
    refine fin_i [] rfl (fz ?_) trivial
    rw [frF, hk]
    trivial
theorem at'_mem {α : Type} [Inhabited α] {l : List α} {i : Nat} (h : i < l.length) : at' l i ∈ l := by rw [atq_eq h]; exact List.getElem_mem h
set_option maxHeartbeats 4000000 in
theorem c_impl_FrameAll {ps : List Pk} (hl : ps.length ≤ 1099511627776 := by first | assumption | omega) (hz : ∀ p ∈ ps, p.body.size ≤ 1099511627776 := by assumption) : Con0 Tryz.prog 137 [.one (.sl 16 (ps.map pkE))] (.one (.hs 0)) [(0, .arr 9 1 ((framesF ps).map strE))] := by
  refine con_i Tryz.func137 Tryz.ntmps137 (t := [(0, .one (.sl 16 (ps.map pkE)))]) rfl ?_
  refine vc_sr ?_
  refine vo ?_
  refine vnt ?_
  refine vc_sr ?_
  iterate 2 refine vo ?_
  refine vnt ?_
  refine vc_seq' ?_
  refine vc_sr ?_
  iterate 2 refine vo ?_
  try first | refine vlb ?_ | refine vln ?_
  refine vo ?_
  refine vnt ?_
  refine vc_block ?_
  refine vc_lp (σ := Nat) [9, 10] [] (fun i => [(3, .one (.hs 7)), (11, I (i : Nat))]) (fun i => [(7, .arr 9 1 ((framesF (ps.take i)).map strE))]) (fun i => i ≤ ps.length) (fun i => ps.length - i) 0 rfl rfl (sub_i [(7, some 64)] (fz ?_) (fz ?_)) ?_ fun i hI => ?_
  · first | trivial | rfl
  · first | trivial | rfl
  · exact Nat.zero_le _
  refine vc_nf rfl rfl ?_
  have hzi : i < ps.length → (at' ps i).body.size ≤ 1099511627776 := fun h => hz _ (at'_mem h)
  have hfl : (framesF (ps.take i)).length ≤ i := Nat.le_trans (frames_le _) (by rw [List.length_take]; omega)
  refine vc_sr ?_
  refine vo ?_
  refine vnt ?_
  refine vc_seq' ?_
  refine vc_if (fun g1 => ?_) (fun g1 => ?_)
  · refine vc_skip ?_
    refine thn ?_
    refine vc_seq' ?_
    refine vc_block ?_
    refine vc_sr ?_
    refine vo ?_
    try with_reducible (first | refine vep ?_ | refine vpt ?_)
    iterate 3 refine vo ?_
    refine vnt ?_
    refine vc_sr ?_
    refine vo ?_
    refine voc c_impl_BuildFrame rfl rfl ?_
    iterate 5 refine vo ?_
    refine vnt ?_
    refine vc_sr ?_
    refine vo ?_
    refine vnt ?_
    refine vc_if (fun g2 => ?_) (fun g2 => ?_)
    · refine vc_region ?_
      iterate 5 refine vo ?_
      refine vnil ?_
      refine inB_n ?_
      refine thn ?_
      refine vc_region ?_
      refine vo ?_
      try refine vwr ?_
      refine vo ?_
      refine vnt ?_
      refine ⟨i + 1, ?_, ?_, sub_i [(7, some 192)] (fz ?_) (fz ?_)⟩
      · omega
      · omega
      · first | trivial | rfl | exact ⟨rfl, rfl⟩
      · rw [← frames_y (l := ps) (i := i) g1 (by assumption)]; simp [strE]
    · refine vc_skip ?_
      refine inB_n ?_
      refine thn ?_
      refine vc_region ?_
      refine vo ?_
      try refine vwr ?_
      refine vo ?_
      refine vnt ?_
      refine ⟨i + 1, ?_, ?_, sub_i [(7, some 7)] (fz ?_) (fz ?_)⟩
      · omega
      · omega
      · first | trivial | rfl | exact ⟨rfl, rfl⟩
      · rw [← frames_n (l := ps) (i := i) g1 (by assumption)]
  · refine vc_exit ?_
    refine thn_x ?_
    refine thn_x ?_
    refine inB_x ?_
    refine thn ?_
    refine vc_sr ?_
    iterate 2 refine vo ?_
    refine vnt ?_
    refine vc_ret ?_
    refine fin_i [(0, some 7)] rfl (fz ?_) (fz ?_)
    · trivial
    · rw [frames_end (by omega)]
set_option maxHeartbeats 4000000 in
theorem c_spec_FrameAll {ps : List Pk} (hl : ps.length ≤ 1099511627776 := by first | assumption | omega) (hz : ∀ p ∈ ps, p.body.size ≤ 1099511627776 := by assumption) : Con0 Tryz.prog 115 [.one (.sl 16 (ps.map pkE))] (.one (.hs 0)) [(0, .arr 9 1 ((framesF ps).map strE))] := by
  refine con_i Tryz.func115 Tryz.ntmps115 (t := [(0, .one (.sl 16 (ps.map pkE)))]) rfl ?_
  refine vc_sr ?_
  refine vo ?_
  refine vnt ?_
  refine vc_sr ?_
  iterate 2 refine vo ?_
  refine vnt ?_
  refine vc_seq' ?_
  refine vc_sr ?_
  refine vo ?_
  refine vnt ?_
  refine vc_block ?_
  refine vc_lp (σ := Nat) [0] [] (fun i => [(3, .one (.hs 7)), (4, I (i : Nat))]) (fun i => [(7, .arr 9 1 ((framesF (ps.take i)).map strE))]) (fun i => i ≤ ps.length) (fun i => ps.length - i) 0 rfl rfl (sub_i [(7, some 56)] (fz ?_) (fz ?_)) ?_ fun i hI => ?_
  · first | trivial | rfl
  · first | trivial | rfl
  · exact Nat.zero_le _
  refine vc_nf rfl rfl ?_
  have hzi : i < ps.length → (at' ps i).body.size ≤ 1099511627776 := fun h => hz _ (at'_mem h)
  have hfl : (framesF (ps.take i)).length ≤ i := Nat.le_trans (frames_le _) (by rw [List.length_take]; omega)
  refine vc_seq' ?_
  refine vc_sr ?_
  iterate 3 refine vo ?_
  try first | refine vlb ?_ | refine vln ?_
  refine vo ?_
  refine vnt ?_
  refine vc_if (fun g1 => ?_) (fun g1 => ?_)
  · refine vc_skip ?_
    refine thn ?_
    refine vc_seq' ?_
    refine vc_block ?_
    refine vc_sr ?_
    iterate 3 refine vo ?_
    try with_reducible (first | refine vep ?_ | refine vpt ?_)
    refine vo ?_
    refine voc c_spec_BuildFrame rfl rfl ?_
    iterate 5 refine vo ?_
    refine vnt ?_
    refine vc_sr ?_
    refine vo ?_
    refine vnt ?_
    refine vc_if (fun g2 => ?_) (fun g2 => ?_)
    · refine vc_region ?_
      iterate 5 refine vo ?_
      refine vnil ?_
      refine inB_n ?_
      refine thn ?_
      refine vc_region ?_
      iterate 2 refine vo ?_
      try refine vwr ?_
      refine vo ?_
      refine vnt ?_
      refine ⟨i + 1, ?_, ?_, sub_i [(7, some 208)] (fz ?_) (fz ?_)⟩
      · omega
      · omega
      · first | trivial | rfl | exact ⟨rfl, rfl⟩
      · rw [← frames_y (l := ps) (i := i) g1 (by assumption)]; simp [strE]
    · refine vc_skip ?_
      refine inB_n ?_
      refine thn ?_
      refine vc_region ?_
      iterate 2 refine vo ?_
      try refine vwr ?_
      refine vo ?_
      refine vnt ?_
      refine ⟨i + 1, ?_, ?_, sub_i [(7, some 7)] (fz ?_) (fz ?_)⟩
      · omega
      · omega
      · first | trivial | rfl | exact ⟨rfl, rfl⟩
      · rw [← frames_n (l := ps) (i := i) g1 (by assumption)]
  · refine vc_exit ?_
    refine thn_x ?_
    refine thn_x ?_
    refine inB_x ?_
    refine thn ?_
    refine vc_sr ?_
    iterate 2 refine vo ?_
    refine vnt ?_
    refine vc_ret ?_
    refine fin_i [(0, some 7)] rfl (fz ?_) (fz ?_)
    · trivial
    · rw [frames_end (by omega)]
theorem mul_s (k : Nat) (size : Int) : ((k : Int) + 1) * size = (k : Int) * size + size := by rw [Int.add_mul, Int.one_mul]
theorem mul_nn {k : Nat} {size : Int} (h : 0 ≤ size) : 0 ≤ (k : Int) * size := Int.mul_nonneg (by omega) h
theorem mul_b2 {k : Nat} {size : Int} (h1 : k ≤ 320) (h2 : 0 ≤ size) (h3 : size ≤ 128) : (k : Int) * size ≤ 40960 := by
  have := Int.mul_le_mul (show (k : Int) ≤ 320 by omega) h3 h2 (by omega)
  omega
theorem mul_lt {k : Nat} {n : Nat} {size : Int} (h1 : 1 ≤ size) (h2 : (k : Int) * size < n) : k < n := by
  have : (k : Int) * 1 ≤ (k : Int) * size := Int.mul_le_mul_of_nonneg_left h1 (by omega)
  omega
theorem sup_pk {p : Pk} (h : p.sup = true) : p.body.size ≤ 320 ∧ (0 ≤ p.seq ∧ p.seq ≤ 4294967295) ∧ (0 ≤ p.id ∧ p.id ≤ 65535) := by
  have h0 := sup_len h
  unfold Pk.sup at h
  simp only [superOkB, segOkB, Bool.and_eq_true, Bool.or_eq_true, inB_iff, Bool.not_eq_true', decide_eq_false_iff_not, beq_iff_eq] at h
  obtain ⟨_, _, _, _, _, h1, _, _, ⟨h2, h3⟩, _⟩ := h
  refine ⟨h0, ?_, h1⟩
  rcases h3 with ⟨_, a, _, b, _⟩ | ⟨_, _, a, _, b, _⟩
  · exact a
  · omega
set_option maxHeartbeats 4000000 in
theorem c_impl_Split {p : Pk} {size : Int} (hz_p : p.body.size ≤ 1099511627776 := by first | assumption | omega) : Con0 Tryz.prog 138 [.agg [V (p).dm, V (p).sm, V (p).vl, V (p).tos, V (p).id, V (p).ttl, V (p).si, V (p).di, V (p).kind, V (p).sp, V (p).dp, V (p).seq, V (p).ack, V (p).fl, V (p).win, VS (p).body], I size] (.one (.hs 0)) [(0, .arr 68 16 ((splitF p size).map pkE))] := by
  refine con_i Tryz.func138 Tryz.ntmps138 (t := [(0, .agg [V (p).dm, V (p).sm, V (p).vl, V (p).tos, V (p).id, V (p).ttl, V (p).si, V (p).di, V (p).kind, V (p).sp, V (p).dp, V (p).seq, V (p).ack, V (p).fl, V (p).win, VS (p).body]), (1, I size)]) rfl ?_
  refine vc_sr ?_
  iterate 2 refine vo ?_
  refine vnt ?_
  refine vc_seq' ?_
  refine vc_sr ?_
  refine vo ?_
  refine voc c_impl_SuperOk rfl rfl ?_
  iterate 2 refine vo ?_
  refine vsp (fun g1 => ?_) (fun g1 => ?_)
  · iterate 3 refine vof ?_
    refine vo ?_
    refine vnt ?_
    refine vc_then ?_
    refine vc_sr ?_
    refine vo ?_
    refine vnt ?_
    refine vc_ret ?_
    refine thn_r ?_
    refine fin_i [(0, none)] rfl (fz ?_) (fz ?_)
    · trivial
    · rw [split_0 (.inl g1)]; rfl
  · have hs : p.sup = true := g1
    refine von ?_
    refine vocn c_impl_between rfl rfl ?_
    refine von ?_
    refine vo ?_
    refine vnt ?_
    refine vc_if (fun g2 => ?_) (fun g2 => ?_)
    · refine vc_sr ?_
      refine vo ?_
      refine vnt ?_
      refine vc_ret ?_
      refine thn_r ?_
      refine fin_i [(0, none)] rfl (fz ?_) (fz ?_)
      · trivial
      · rw [split_0 (.inr g2)]; rfl
    · have hz2 := inB_iff.1 g2
      obtain ⟨hbz, hsq, hid⟩ := sup_pk hs
      refine vc_skip ?_
      refine thn ?_
      refine vc_sr ?_
      iterate 4 refine vo ?_
      refine vnt ?_
      refine vc_seq' ?_
      refine vc_sr ?_
      iterate 5 refine vo ?_
      refine vsp (fun g3 => ?_) (fun g3 => ?_)
      · iterate 4 refine vof ?_
        refine vo ?_
        refine vnt ?_
        refine vc_then ?_
        refine vc_sr ?_
        iterate 3 refine vo ?_
        refine vnt ?_
        refine vc_ret ?_
        refine thn_r ?_
        refine fin_i [(0, some 256)] rfl (fz ?_) (fz ?_)
        · trivial
        · rw [split_1 hs g2 (.inl g3)]; rfl
      · iterate 4 refine von ?_
        refine vo ?_
        refine vnt ?_
        refine vc_if (fun g4 => ?_) (fun g4 => ?_)
        · refine vc_sr ?_
          iterate 3 refine vo ?_
          refine vnt ?_
          refine vc_ret ?_
          refine thn_r ?_
          refine fin_i [(0, some 256)] rfl (fz ?_) (fz ?_)
          · trivial
          · rw [split_1 hs g2 (.inr g4)]; rfl
        · refine vc_skip ?_
          refine thn ?_
          refine vc_sr ?_
          iterate 2 refine vo ?_
          refine vnt ?_
          refine vc_seq' ?_
          refine vc_sr ?_
          refine vo ?_
          refine vnt ?_
          refine vc_block ?_
          refine vc_lp (σ := Nat) [1, 2, 5] [16] (fun k => [(6, .one (.hs 7)), (7, I (k : Nat))]) (fun k => [(7, .arr 68 16 (((List.range k).map (p.part size)).map pkE))]) (fun k => k ≤ p.body.size ∧ (0 < k → ((k : Int) - 1) * size < p.body.size)) (fun k => p.body.size - k) 0 rfl rfl (sub_i [(7, some 264)] (fz ?_) (fz ?_)) ?_ fun k hI => ?_
          · first | trivial | rfl
          · first | trivial | rfl
          · exact ⟨Nat.zero_le _, fun h => by omega⟩
          refine vc_nf rfl rfl ?_
          have hlr : (List.range k).length = k := List.length_range
          have hmb := mul_b2 (k := k) (size := size) (by omega) (by omega) (by omega)
          have hm := mul_s k size
          have hn := mul_nn (k := k) (show 0 ≤ size by omega)
          refine vc_seq' ?_
          refine vc_sr ?_
          iterate 3 refine vo ?_
          try refine vwr ?_
          iterate 3 refine vo ?_
          refine vnt ?_
          refine vc_if (fun g5 => ?_) (fun g5 => ?_)
          · have hlt : (k : Int) * size < p.body.size := g5
            have hkn := mul_lt (by omega) hlt
            refine vc_skip ?_
            refine thn ?_
            refine vc_seq' ?_
            refine vc_block ?_
            refine vc_sr ?_
            iterate 3 refine vo ?_
            refine vnt ?_
            refine vc_sr ?_
            iterate 2 refine vo ?_
            try refine vwr ?_
            iterate 2 refine vo ?_
            try refine vwr ?_
            refine vo ?_
            refine vnt ?_
            refine vc_seq' ?_
            refine vc_sr ?_
            iterate 4 refine vo ?_
            refine vnt ?_
            refine vc_if (fun g6 => ?_) (fun g6 => ?_)
            · have hfl : (if ((k : Int) + 1) * size < (p.body.size : Int) then andNotI p.fl 9 else p.fl) = andNotI p.fl 9 := if_pos g6
              refine vc_region ?_
              iterate 7 refine vo ?_
              refine vnt ?_
              refine vc_sr ?_
              iterate 4 refine vo ?_
              try refine vwr ?_
              iterate 2 refine vo ?_
              try first | refine vdr ?_ | refine vtk ?_
              iterate 3 refine vo ?_
              refine vnt ?_
              refine vc_sr ?_
              iterate 6 refine vo ?_
              try refine vwr ?_
              refine vo ?_
              try refine vwr ?_
              refine vo ?_
              try refine veq (Int.tmod_eq_emod_of_nonneg (by omega)) ?_
              iterate 3 refine vo ?_
              refine vnt ?_
              refine vc_sr ?_
              iterate 4 refine vo ?_
              try refine vwr ?_
              refine vo ?_
              try refine veq (Int.tmod_eq_emod_of_nonneg (by omega)) ?_
              iterate 2 refine vo ?_
              refine vnt ?_
              refine vc_region ?_
              iterate 5 refine vo ?_
              refine vnil ?_
              refine inB_n ?_
              refine thn ?_
              refine vc_region ?_
              iterate 2 refine vo ?_
              try refine vwr ?_
              refine vo ?_
              refine vnt ?_
              refine ⟨k + 1, ?_, ?_, sub_i [(7, some 688)] (fz ?_) (fz ?_)⟩
              · refine ⟨by omega, fun _ => ?_⟩; rw [show ((k + 1 : Nat) : Int) - 1 = k by omega]; exact hlt
              · omega
              · first | trivial | rfl | exact ⟨rfl, rfl⟩
              · rw [← part_stp]; simp [pkE, Pk.part, hfl, Int.tmod_eq_emod_of_nonneg]; try (congr 1; omega)
            · have hfl : (if ((k : Int) + 1) * size < (p.body.size : Int) then andNotI p.fl 9 else p.fl) = p.fl := if_neg (by omega)
              refine vc_region ?_
              iterate 3 refine vo ?_
              refine vnt ?_
              refine vc_sr ?_
              iterate 4 refine vo ?_
              try refine vwr ?_
              iterate 2 refine vo ?_
              try first | refine vdr ?_ | refine vtk ?_
              iterate 3 refine vo ?_
              refine vnt ?_
              refine vc_sr ?_
              iterate 6 refine vo ?_
              try refine vwr ?_
              refine vo ?_
              try refine vwr ?_
              refine vo ?_
              try refine veq (Int.tmod_eq_emod_of_nonneg (by omega)) ?_
              iterate 3 refine vo ?_
              refine vnt ?_
              refine vc_sr ?_
              iterate 4 refine vo ?_
              try refine vwr ?_
              refine vo ?_
              try refine veq (Int.tmod_eq_emod_of_nonneg (by omega)) ?_
              iterate 2 refine vo ?_
              refine vnt ?_
              refine vc_region ?_
              iterate 5 refine vo ?_
              refine vnil ?_
              refine inB_n ?_
              refine thn ?_
              refine vc_region ?_
              iterate 2 refine vo ?_
              try refine vwr ?_
              refine vo ?_
              refine vnt ?_
              refine ⟨k + 1, ?_, ?_, sub_i [(7, some 688)] (fz ?_) (fz ?_)⟩
              · refine ⟨by omega, fun _ => ?_⟩; rw [show ((k + 1 : Nat) : Int) - 1 = k by omega]; exact hlt
              · omega
              · first | trivial | rfl | exact ⟨rfl, rfl⟩
              · rw [← part_stp]; simp [pkE, Pk.part, hfl, Int.tmod_eq_emod_of_nonneg]; try (congr 1; omega)
          · refine vc_exit ?_
            refine thn_x ?_
            refine thn_x ?_
            refine inB_x ?_
            refine thn ?_
            refine vc_sr ?_
            iterate 2 refine vo ?_
            refine vnt ?_
            refine vc_ret ?_
            refine fin_i [(0, some 7)] rfl (fz ?_) (fz ?_)
            · trivial
            · rw [split_n hs g2 (by omega) (by omega) (by omega) hI.2]
set_option maxHeartbeats 4000000 in
theorem c_spec_Split {p : Pk} {size : Int} (hz_p : p.body.size ≤ 1099511627776 := by first | assumption | omega) : Con0 Tryz.prog 116 [.agg [V (p).dm, V (p).sm, V (p).vl, V (p).tos, V (p).id, V (p).ttl, V (p).si, V (p).di, V (p).kind, V (p).sp, V (p).dp, V (p).seq, V (p).ack, V (p).fl, V (p).win, VS (p).body], I size] (.one (.hs 0)) [(0, .arr 68 16 ((splitF p size).map pkE))] := by
  refine con_i Tryz.func116 Tryz.ntmps116 (t := [(0, .agg [V (p).dm, V (p).sm, V (p).vl, V (p).tos, V (p).id, V (p).ttl, V (p).si, V (p).di, V (p).kind, V (p).sp, V (p).dp, V (p).seq, V (p).ack, V (p).fl, V (p).win, VS (p).body]), (1, I size)]) rfl ?_
  refine vc_sr ?_
  iterate 2 refine vo ?_
  refine vnt ?_
  refine vc_sr ?_
  iterate 2 refine vo ?_
  refine vnt ?_
  refine vc_seq' ?_
  refine vc_sr ?_
  refine vo ?_
  refine voc c_spec_SuperOk rfl rfl ?_
  iterate 2 refine vo ?_
  refine vsp (fun g1 => ?_) (fun g1 => ?_)
  · iterate 3 refine vof ?_
    refine vo ?_
    refine vnt ?_
    refine vc_then ?_
    refine vc_sr ?_
    iterate 2 refine vo ?_
    refine vnt ?_
    refine vc_ret ?_
    refine thn_r ?_
    refine fin_i [(0, some 72)] rfl (fz ?_) (fz ?_)
    · trivial
    · rw [split_0 (.inl g1)]; rfl
  · have hs : p.sup = true := g1
    refine von ?_
    refine vocn c_spec_l01In rfl rfl ?_
    refine von ?_
    refine vo ?_
    refine vnt ?_
    refine vc_if (fun g2 => ?_) (fun g2 => ?_)
    · refine vc_sr ?_
      iterate 2 refine vo ?_
      refine vnt ?_
      refine vc_ret ?_
      refine thn_r ?_
      refine fin_i [(0, some 72)] rfl (fz ?_) (fz ?_)
      · trivial
      · rw [split_0 (.inr g2)]; rfl
    · have hz2 := inB_iff.1 g2
      obtain ⟨hbz, hsq, hid⟩ := sup_pk hs
      refine vc_skip ?_
      refine thn ?_
      refine vc_sr ?_
      iterate 5 refine vo ?_
      refine vnt ?_
      refine vc_seq' ?_
      refine vc_sr ?_
      iterate 5 refine vo ?_
      refine vsp (fun g3 => ?_) (fun g3 => ?_)
      · iterate 3 refine vof ?_
        refine vo ?_
        refine vnt ?_
        refine vc_then ?_
        refine vc_sr ?_
        iterate 5 refine vo ?_
        refine vnt ?_
        refine vc_ret ?_
        refine thn_r ?_
        refine fin_i [(0, some 280)] rfl (fz ?_) (fz ?_)
        · trivial
        · rw [split_1 hs g2 (.inl g3)]; rfl
      · iterate 3 refine von ?_
        refine vo ?_
        refine vnt ?_
        refine vc_if (fun g4 => ?_) (fun g4 => ?_)
        · refine vc_sr ?_
          iterate 5 refine vo ?_
          refine vnt ?_
          refine vc_ret ?_
          refine thn_r ?_
          refine fin_i [(0, some 280)] rfl (fz ?_) (fz ?_)
          · trivial
          · rw [split_1 hs g2 (.inr g4)]; rfl
        · refine vc_skip ?_
          refine thn ?_
          refine vc_seq' ?_
          refine vc_sr ?_
          refine vo ?_
          refine vnt ?_
          refine vc_block ?_
          refine vc_lp (σ := Nat) [1, 2, 6] [16] (fun k => [(5, .one (.hs 7)), (7, I (k : Nat))]) (fun k => [(7, .arr 68 16 (((List.range k).map (p.part size)).map pkE))]) (fun k => k ≤ p.body.size ∧ (0 < k → ((k : Int) - 1) * size < p.body.size)) (fun k => p.body.size - k) 0 rfl rfl (sub_i [(7, some 72)] (fz ?_) (fz ?_)) ?_ fun k hI => ?_
          · first | trivial | rfl
          · first | trivial | rfl
          · exact ⟨Nat.zero_le _, fun h => by omega⟩
          refine vc_nf rfl rfl ?_
          have hlr : (List.range k).length = k := List.length_range
          have hmb := mul_b2 (k := k) (size := size) (by omega) (by omega) (by omega)
          have hm := mul_s k size
          have hn := mul_nn (k := k) (show 0 ≤ size by omega)
          refine vc_seq' ?_
          refine vc_sr ?_
          iterate 3 refine vo ?_
          try refine vwr ?_
          iterate 2 refine vo ?_
          refine vnt ?_
          refine vc_if (fun g5 => ?_) (fun g5 => ?_)
          · have hlt : (k : Int) * size < p.body.size := g5
            have hkn := mul_lt (by omega) hlt
            refine vc_skip ?_
            refine thn ?_
            refine vc_seq' ?_
            refine vc_block ?_
            refine vc_sr ?_
            iterate 3 refine vo ?_
            refine vnt ?_
            refine vc_sr ?_
            iterate 6 refine vo ?_
            try refine vwr ?_
            iterate 3 refine vo ?_
            try refine vwr ?_
            iterate 2 refine vo ?_
            try refine vwr ?_
            iterate 2 refine vo ?_
            try first | refine vdr ?_ | refine vtk ?_
            iterate 3 refine vo ?_
            refine vnt ?_
            refine vc_sr ?_
            iterate 6 refine vo ?_
            try refine vwr ?_
            refine vo ?_
            try refine vwr ?_
            refine vo ?_
            try refine veq (Int.tmod_eq_emod_of_nonneg (by omega)) ?_
            iterate 3 refine vo ?_
            refine vnt ?_
            refine vc_sr ?_
            iterate 4 refine vo ?_
            try refine vwr ?_
            refine vo ?_
            try refine veq (Int.tmod_eq_emod_of_nonneg (by omega)) ?_
            iterate 2 refine vo ?_
            refine vnt ?_
            refine vc_seq' ?_
            refine vc_sr ?_
            iterate 2 refine vo ?_
            try refine vwr ?_
            iterate 2 refine vo ?_
            try refine vwr ?_
            iterate 2 refine vo ?_
            refine vnt ?_
            refine vc_if (fun g6 => ?_) (fun g6 => ?_)
            · have hfl : (if ((k : Int) + 1) * size < (p.body.size : Int) then andNotI p.fl 9 else p.fl) = andNotI p.fl 9 := if_pos g6
              refine vc_region ?_
              iterate 7 refine vo ?_
              refine vnt ?_
              refine vc_region ?_
              iterate 5 refine vo ?_
              refine vnil ?_
              refine inB_n ?_
              refine thn ?_
              refine vc_region ?_
              iterate 2 refine vo ?_
              try refine vwr ?_
              refine vo ?_
              refine vnt ?_
              refine ⟨k + 1, ?_, ?_, sub_i [(7, some 720)] (fz ?_) (fz ?_)⟩
              · refine ⟨by omega, fun _ => ?_⟩; rw [show ((k + 1 : Nat) : Int) - 1 = k by omega]; exact hlt
              · omega
              · first | trivial | rfl | exact ⟨rfl, rfl⟩
              · rw [← part_stp]; simp [pkE, Pk.part, hfl, Int.tmod_eq_emod_of_nonneg]; try (congr 1; omega)
            · have hfl : (if ((k : Int) + 1) * size < (p.body.size : Int) then andNotI p.fl 9 else p.fl) = p.fl := if_neg (by omega)
              refine vc_skip ?_
              refine thn ?_
              refine vc_region ?_
              iterate 5 refine vo ?_
              refine vnil ?_
              refine inB_n ?_
              refine thn ?_
              refine vc_region ?_
              iterate 2 refine vo ?_
              try refine vwr ?_
              refine vo ?_
              refine vnt ?_
              refine ⟨k + 1, ?_, ?_, sub_i [(7, some 720)] (fz ?_) (fz ?_)⟩
              · refine ⟨by omega, fun _ => ?_⟩; rw [show ((k + 1 : Nat) : Int) - 1 = k by omega]; exact hlt
              · omega
              · first | trivial | rfl | exact ⟨rfl, rfl⟩
              · rw [← part_stp]; simp [pkE, Pk.part, hfl, Int.tmod_eq_emod_of_nonneg]; try (congr 1; omega)
          · refine vc_exit ?_
            refine thn_x ?_
            refine thn_x ?_
            refine inB_x ?_
            refine thn ?_
            refine vc_sr ?_
            iterate 2 refine vo ?_
            refine vnt ?_
            refine vc_ret ?_
            refine fin_i [(0, some 7)] rfl (fz ?_) (fz ?_)
            · trivial
            · rw [split_n hs g2 (by omega) (by omega) (by omega) hI.2]
end Go.Proofs.YtgbjkojgjhcabaaGreat
end
