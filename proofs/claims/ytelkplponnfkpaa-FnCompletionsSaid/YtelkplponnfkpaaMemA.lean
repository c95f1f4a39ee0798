/- Copies of a memory; whether it is valid, whether bytes exist; the place of an address: the program and the reference. -/
import Derived.Test.YtelkplponnfkpaaRows
import Derived.Test.YtelkplponnfkpaaMapA
import Derived.Test.YtelkplponnfkpaaTk
namespace Go.Proofs.Ytelkplponnfkpaa
open Go.RowKit
set_option linter.unusedVariables false
set_option linter.unusedSimpArgs false

def RetMem (w : World) (ps : Pg) (e : Ending) (w' : World) : Prop := ∃ a c, e = .returned (.agg #[.slice a ps.length c]) ∧ Owns w.heap.size w' ps [.slice a ps.length c] ∧ Ex w w'
def RetMemB (w : World) (ps : Pg) (ok : Bool) (e : Ending) (w' : World) : Prop := ∃ a c, e = .returned (.tuple #[.agg #[.slice a ps.length c], .bool ok]) ∧ Owns w.heap.size w' ps [.slice a ps.length c] ∧ Ex w w'
theorem retMem {w0 w : World} {Is Js : List Asn} {ps : Pg} {v : Value} (h : St w0 w Is) (t : Take Is (ownA ps [v]) Js) : RetMem w0 ps (.returned (.agg #[v])) w := by
  obtain ⟨a, c, rfl⟩ := ownA.form h t
  exact ⟨a, c, rfl, h.owns t, h.ex⟩
theorem retMemB {w0 w : World} {Is Js : List Asn} {ps : Pg} {v : Value} {ok : Bool} (h : St w0 w Is) (t : Take Is (ownA ps [v]) Js) : RetMemB w0 ps ok (.returned (.tuple #[.agg #[v], .bool ok])) w := by
  obtain ⟨a, c, rfl⟩ := ownA.form h t
  exact ⟨a, c, rfl, h.owns t, h.ex⟩
theorem _root_.Go.Holds.sizes {w : World} {ps : Pg} {vs : List Value} (h : Holds w ps vs) : ∀ p ∈ ps, p.size ≤ maxLen := fun p hp => h.flok hp

set_option maxRecDepth 100000 in
set_option maxHeartbeats 4000000 in
theorem copyStrings_any (v : Value) (ps : Pg) (w : World) (k1 : Holds w ps [v]) (hl : ps.length ≤ 1099511627776) :
    Calls Try.prog 115 #[v] w (RetSl w ps) := by
  obtain ⟨AA, cap, rfl, z1, z2⟩ := k1.fl
  unfold maxLen at z2
  have HS := St.start w
  go_enter Try.func115, Try.ntmps115
  go_wp2_with (first
        | ((with_reducible (show wpList _ _ _ (Oper.mk (some 3) (Op.buildSlice _ _ _) _ _ _ _ :: _) _ _)); refine wpList_bslice0_st (o := ⟨some 3, .buildSlice _ _ _, _, _, _, _⟩) rfl _ rfl _ Try.underlying25 in_string HS ?_; clear HS; intro w3 b3 hb3 HS; replace HS := HS.slotMade 1 tk)
        | ((with_reducible (show wpList _ _ _ (Oper.mk (some 5) (Op.call { callee := .builtin .append, args := _, argTypes := _ }) _ _ _ _ :: _) _ _)); refine wpList_app_st (o := ⟨some 5, .call { callee := .builtin .append, args := _, argTypes := _ }, _, _, _, _⟩) rfl _ _ _ _ rfl _ Try.underlying25 in_string rfl HS tk rfl ((k1.ex HS.ex).srcFlat Try.underlying25) mxl (by omega) ?_; clear HS; intro a5 c5 w5 hb5 HS))
  go_ret
  simp only [Nat.zero_add, List.nil_append] at HS
  replace HS := HS.shut (α := ByteArray) (xs := ps) tk rfl (fun x hx => k1.sizes x hx)
  simp only [Nat.zero_add]
  exact HS.ret tk

set_option maxRecDepth 100000 in
set_option maxHeartbeats 4000000 in
theorem copyMemory_any (v : Value) (ps : Pg) (w : World) (k1 : Holds w ps [v]) (hl : ps.length ≤ 1099511627776) :
    Calls Try.prog 55 #[.agg #[v]] w (RetMem w ps) := by
  obtain ⟨AA, cap, rfl, z1, z2⟩ := k1.fl
  unfold maxLen at z2
  have HS := St.start w
  go_enter Try.func55, Try.ntmps55
  go_wp2_with (first
        | (go_at_call 115; (with_reducible refine (copyStrings_any _ ps _ (k1.ex HS.ex) hl).mono ?_); rintro e w' ⟨a1, c1, rfl, ho, hx⟩; replace HS := HS.own ho hx; clear ho hx)
        | ((with_reducible (show wpList _ _ _ (Oper.mk (some 1) (Op.box _ _) _ _ _ _ :: _) _ _)); refine wpList_box_st (o := ⟨some 1, .box _ _, _, _, _, _⟩) rfl _ _ rfl (v := .agg (List.toArray _)) rfl HS ?_; clear HS; intro w1 b1 hb1 HS; simp only [Value.cells] at HS)
        | ((with_reducible (show wpList _ _ _ (Oper.mk (some 2) (Op.alloc _) _ _ _ _ :: _) _ _)); refine wpList_alloc_st (o := ⟨some 2, .alloc _, _, _, _, _⟩) rfl _ rfl zc_impl_Memory HS ?_; clear HS; intro w2 b2 hb2 HS)
        | ((with_reducible (show wpList _ _ _ (Oper.mk (some 4) (Op.load _ _) _ _ _ _ :: _) _ _)); refine wpList_loadS_st (o := ⟨some 4, .load _ _, _, _, _, _⟩) rfl _ _ rfl rfl HS tk sc_Sstring rfx ?_)
        | ((with_reducible (show wpList _ _ _ (Oper.mk none (Op.store _ (.tmp 2) _) _ _ _ _ :: _) _ _)); refine wpList_store_st (o := ⟨none, .store _ (.tmp 2) _, _, _, _, _⟩) rfl _ _ _ rfl rfl (v := .agg (List.toArray _)) rfl HS tk sz_impl_Memory vcs rfx rfx (by simp) ?_ rfl; clear HS; intro w1_4 hz1_4 HS; simp only [nicL, Value.cells, List.append_nil] at HS))
  refine bodyPost_retc rfx rfx HS tk ag_impl_Memory rfx rfx ?_
  exact retMem HS tk

set_option maxRecDepth 100000 in
set_option maxHeartbeats 4000000 in
theorem l16CopyS_any (v : Value) (ps : Pg) (w : World) (k1 : Holds w ps [v]) (hl : ps.length ≤ 1099511627776) :
    Calls Try.prog 74 #[.agg #[v]] w (RetMem w ps) := by
  obtain ⟨AA, cap, rfl, z1, z2⟩ := k1.fl
  unfold maxLen at z2
  have HS := St.start w
  go_enter Try.func74, Try.ntmps74
  go_wp2_with (first
        | ((with_reducible (show wpList _ _ _ (Oper.mk (some 1) (Op.box _ _) _ _ _ _ :: _) _ _)); refine wpList_box_st (o := ⟨some 1, .box _ _, _, _, _, _⟩) rfl _ _ rfl (v := .agg (List.toArray _)) rfl HS ?_; clear HS; intro w1 b1 hb1 HS; simp only [Value.cells] at HS)
        | ((with_reducible (show wpList _ _ _ (Oper.mk (some 2) (Op.alloc _) _ _ _ _ :: _) _ _)); refine wpList_alloc_st (o := ⟨some 2, .alloc _, _, _, _, _⟩) rfl _ rfl zc_impl_Memory HS ?_; clear HS; intro w2 b2 hb2 HS)
        | ((with_reducible (show wpList _ _ _ (Oper.mk (some 3) (Op.buildSlice _ _ _) _ _ _ _ :: _) _ _)); refine wpList_bslice0_st (o := ⟨some 3, .buildSlice _ _ _, _, _, _, _⟩) rfl _ rfl _ Try.underlying25 in_string HS ?_; clear HS; intro w3 b3 hb3 HS; replace HS := HS.slotMade 1 tk)
        | ((with_reducible (show wpList _ _ _ (Oper.mk (some 5) (Op.load _ _) _ _ _ _ :: _) _ _)); refine wpList_loadS_st (o := ⟨some 5, .load _ _, _, _, _, _⟩) rfl _ _ rfl rfl HS tk sc_Sstring rfx ?_)
        | ((with_reducible (show wpList _ _ _ (Oper.mk (some 6) (Op.call { callee := .builtin .append, args := _, argTypes := _ }) _ _ _ _ :: _) _ _)); refine wpList_app_st (o := ⟨some 6, .call { callee := .builtin .append, args := _, argTypes := _ }, _, _, _, _⟩) rfl _ _ _ _ rfl _ Try.underlying25 in_string rfl HS tk rfl ((k1.ex HS.ex).srcFlat Try.underlying25) mxl (by omega) ?_; clear HS; intro a6 c6 w6 hb6 HS; (try simp only [Nat.zero_add, List.nil_append] at HS); (try simp only [Nat.zero_add]); replace HS := HS.shut (α := ByteArray) (xs := ps) tk rfl (fun x hx => k1.sizes x hx))
        | ((with_reducible (show wpList _ _ _ (Oper.mk none (Op.store _ (.tmp 2) _) _ _ _ _ :: _) _ _)); refine wpList_store_st (o := ⟨none, .store _ (.tmp 2) _, _, _, _, _⟩) rfl _ _ _ rfl rfl (v := .agg (List.toArray _)) rfl HS tk sz_impl_Memory vcs rfx rfx (by simp) ?_ rfl; clear HS; intro w1_5 hz1_5 HS; simp only [nicL, Value.cells, List.append_nil] at HS))
  refine bodyPost_retc rfx rfx HS tk ag_impl_Memory rfx rfx ?_
  exact retMem HS tk

theorem memOk_bad {ps : Pg} {k : Nat} (hk : k < ps.length) (h : ¬ ps[k].size = 128) : memOk ps = false := memOk_not fun hh => h (hh.2 k hk)
theorem memOk_all {ps : Pg} (h : ∀ k (g : k < ps.length), ps[k].size = 128) : memOk ps = decide ((ps.length : Int) ≤ 64) := by
  by_cases h9 : ps.length ≤ 64
  · rw [memOk_iff.2 ⟨h9, h⟩, decide_eq_true (by omega)]
  · rw [memOk_not (fun hh => h9 hh.1), decide_eq_false (by omega)]

set_option maxRecDepth 100000 in
set_option maxHeartbeats 4000000 in
theorem memoryOk_any (v : Value) (ps : Pg) (w : World) (k1 : Holds w ps [v]) :
    Calls Try.prog 148 #[.agg #[v]] w fun e w' => e = .returned (.bool (memOk ps)) ∧ Ex w w' := by
  obtain ⟨AA, cap, rfl, z1, z2⟩ := k1.fl
  unfold maxLen at z2
  have HS := St.start w
  go_enter Try.func148, Try.ntmps148
  go_wp2_with (first
        | ((with_reducible (show wpList _ _ _ (Oper.mk (some 1) (Op.box _ _) _ _ _ _ :: _) _ _)); refine wpList_box_st (o := ⟨some 1, .box _ _, _, _, _, _⟩) rfl _ _ rfl (v := .agg (List.toArray _)) rfl HS ?_; clear HS; intro w1 b1 hb1 HS; simp only [Value.cells] at HS)
        | ((with_reducible (show wpList _ _ _ (Oper.mk (some 6) (Op.load _ _) _ _ _ _ :: _) _ _)); refine wpList_loadS_st (o := ⟨some 6, .load _ _, _, _, _, _⟩) rfl _ _ rfl rfl HS tk sc_Sstring rfx ?_))
  go_loopw [8] (fun i wr => ∃ k : Nat, k ≤ ps.length ∧ (∀ j (g : j < ps.length), j < k → ps[j].size = 128) ∧ i = .int .i64 k ∧ St w wr [rowA b1 [.slice AA ps.length cap] 27]) (fun i _ => ps.length - (intOf i).toNat)
  case atStart => exact ⟨0, Nat.zero_le _, fun j _ g => by omega, rfl, (HS.arr (by repeat (first | exact Arr.nil | (with_reducible exact take_all _) | (refine Arr.cons tk ?_) | (refine arr_skip ?_))))⟩
  case round =>
    clear HS
    obtain ⟨k, hkl, hno, rfl, HS⟩ := hrel
    replace hno := hid hno
    by_cases hlt : k < ps.length
    case pos =>
      obtain ⟨b, off, rfl⟩ := k1.flA (by omega)
      have HK := hid (List.getElem?_eq_getElem hlt)
      generalize hx : ps[k] = x at *
      have HX := hid hx
      clear hx
      by_cases h1 : x.size = 128
      case neg =>
        have HM : Hid (memOk ps = false) := hid (memOk_bad hlt (by rw [HX.out]; exact h1))
        have h2 : ((x.size : Int) != 128) = true := by simp; omega
        clear h1
        go_wp2_with (first
              | ((with_reducible (show wpList _ _ _ (Oper.mk (some 11) (Op.load _ _) _ _ _ _ :: _) _ _)); refine wpList_loadHF (o := ⟨some 11, .load _ _, _, _, _, _⟩) rfl _ _ rfl rfl HS (fun _ hs => k1.ex hs.ex) HK.out 1 0 (by first | rfl | (simp; done) | omega) rfl (by decide) sc_string flt ?_))
        go_ret
        exact ⟨ret_bool HM.out.symm, HS.ex⟩
      case pos =>
        have HE := hid h1
        have h2 : ((x.size : Int) != 128) = false := by simp; omega
        clear h1
        go_wp2_with (first
              | ((with_reducible (show wpList _ _ _ (Oper.mk (some 11) (Op.load _ _) _ _ _ _ :: _) _ _)); refine wpList_loadHF (o := ⟨some 11, .load _ _, _, _, _, _⟩) rfl _ _ rfl rfl HS (fun _ hs => k1.ex hs.ex) HK.out 1 0 (by first | rfl | (simp; done) | omega) rfl (by decide) sc_string flt ?_))
        go_roundw
        case rel => exact ⟨k + 1, hlt, all_stepG hno.out (fun g => by rw [HX.out]; exact HE.out), by go_num, (HS.arr (by repeat (first | exact Arr.nil | (with_reducible exact take_all _) | (refine Arr.cons tk ?_) | (refine arr_skip ?_))))⟩
        case measure => simp [intOf]; omega
    case neg =>
      have HM : Hid (memOk ps = decide ((ps.length : Int) ≤ 64)) := hid (memOk_all fun j g => hno.out j g (by omega))
      go_wp2_with (first
            | ((with_reducible (show wpList _ _ _ (Oper.mk (some 17) (Op.load _ _) _ _ _ _ :: _) _ _)); refine wpList_loadS_st (o := ⟨some 17, .load _ _, _, _, _, _⟩) rfl _ _ rfl rfl HS tk sc_Sstring rfx ?_))
      go_ret
      exact ⟨ret_bool HM.out.symm, HS.ex⟩

set_option maxRecDepth 100000 in
set_option maxHeartbeats 4000000 in
theorem memoryOkS_any (v : Value) (ps : Pg) (w : World) (k1 : Holds w ps [v]) :
    Calls Try.prog 151 #[.agg #[v]] w fun e w' => e = .returned (.bool (memOk ps)) ∧ Ex w w' := by
  obtain ⟨AA, cap, rfl, z1, z2⟩ := k1.fl
  unfold maxLen at z2
  have HS := St.start w
  go_enter Try.func151, Try.ntmps151
  go_wp2_with (first
        | ((with_reducible (show wpList _ _ _ (Oper.mk (some 1) (Op.box _ _) _ _ _ _ :: _) _ _)); refine wpList_box_st (o := ⟨some 1, .box _ _, _, _, _, _⟩) rfl _ _ rfl (v := .agg (List.toArray _)) rfl HS ?_; clear HS; intro w1 b1 hb1 HS; simp only [Value.cells] at HS))
  go_loopw [3] (fun i wr => ∃ k : Nat, k ≤ ps.length ∧ (∀ j (g : j < ps.length), j < k → ps[j].size = 128) ∧ i = .int .i64 k ∧ St w wr [rowA b1 [.slice AA ps.length cap] 27]) (fun i _ => ps.length - (intOf i).toNat)
  case atStart => exact ⟨0, Nat.zero_le _, fun j _ g => by omega, rfl, (HS.arr (by repeat (first | exact Arr.nil | (with_reducible exact take_all _) | (refine Arr.cons tk ?_) | (refine arr_skip ?_))))⟩
  case round =>
    clear HS
    obtain ⟨k, hkl, hno, rfl, HS⟩ := hrel
    replace hno := hid hno
    by_cases hlt : k < ps.length
    case pos =>
      obtain ⟨b, off, rfl⟩ := k1.flA (by omega)
      have HK := hid (List.getElem?_eq_getElem hlt)
      generalize hx : ps[k] = x at *
      have HX := hid hx
      clear hx
      by_cases h1 : x.size = 128
      case neg =>
        have HM : Hid (memOk ps = false) := hid (memOk_bad hlt (by rw [HX.out]; exact h1))
        have h2 : ((x.size : Int) != 128) = true := by simp; omega
        clear h1
        go_wp2_with (first
              | ((with_reducible (show wpList _ _ _ (Oper.mk (some 6) (Op.load _ _) _ _ _ _ :: _) _ _)); refine wpList_loadS_st (o := ⟨some 6, .load _ _, _, _, _, _⟩) rfl _ _ rfl rfl HS tk sc_Sstring rfx ?_)
              | ((with_reducible (show wpList _ _ _ (Oper.mk (some 12) (Op.load _ _) _ _ _ _ :: _) _ _)); refine wpList_loadS_st (o := ⟨some 12, .load _ _, _, _, _, _⟩) rfl _ _ rfl rfl HS tk sc_Sstring rfx ?_)
              | ((with_reducible (show wpList _ _ _ (Oper.mk (some 15) (Op.load _ _) _ _ _ _ :: _) _ _)); refine wpList_loadHF (o := ⟨some 15, .load _ _, _, _, _, _⟩) rfl _ _ rfl rfl HS (fun _ hs => k1.ex hs.ex) HK.out 1 0 (by first | rfl | (simp; done) | omega) rfl (by decide) sc_string flt ?_))
        go_ret
        exact ⟨ret_bool HM.out.symm, HS.ex⟩
      case pos =>
        have HE := hid h1
        have h2 : ((x.size : Int) != 128) = false := by simp; omega
        clear h1
        go_wp2_with (first
              | ((with_reducible (show wpList _ _ _ (Oper.mk (some 6) (Op.load _ _) _ _ _ _ :: _) _ _)); refine wpList_loadS_st (o := ⟨some 6, .load _ _, _, _, _, _⟩) rfl _ _ rfl rfl HS tk sc_Sstring rfx ?_)
              | ((with_reducible (show wpList _ _ _ (Oper.mk (some 12) (Op.load _ _) _ _ _ _ :: _) _ _)); refine wpList_loadS_st (o := ⟨some 12, .load _ _, _, _, _, _⟩) rfl _ _ rfl rfl HS tk sc_Sstring rfx ?_)
              | ((with_reducible (show wpList _ _ _ (Oper.mk (some 15) (Op.load _ _) _ _ _ _ :: _) _ _)); refine wpList_loadHF (o := ⟨some 15, .load _ _, _, _, _, _⟩) rfl _ _ rfl rfl HS (fun _ hs => k1.ex hs.ex) HK.out 1 0 (by first | rfl | (simp; done) | omega) rfl (by decide) sc_string flt ?_))
        go_roundw
        case rel => exact ⟨k + 1, hlt, all_stepG hno.out (fun g => by rw [HX.out]; exact HE.out), by go_num, (HS.arr (by repeat (first | exact Arr.nil | (with_reducible exact take_all _) | (refine Arr.cons tk ?_) | (refine arr_skip ?_))))⟩
        case measure => simp [intOf]; omega
    case neg =>
      have HM : Hid (memOk ps = decide ((ps.length : Int) ≤ 64)) := hid (memOk_all fun j g => hno.out j g (by omega))
      go_wp2_with (first
            | ((with_reducible (show wpList _ _ _ (Oper.mk (some 6) (Op.load _ _) _ _ _ _ :: _) _ _)); refine wpList_loadS_st (o := ⟨some 6, .load _ _, _, _, _, _⟩) rfl _ _ rfl rfl HS tk sc_Sstring rfx ?_)
            | ((with_reducible (show wpList _ _ _ (Oper.mk (some 19) (Op.load _ _) _ _ _ _ :: _) _ _)); refine wpList_loadS_st (o := ⟨some 19, .load _ _, _, _, _, _⟩) rfl _ _ rfl rfl HS tk sc_Sstring rfx ?_))
      go_ret
      exact ⟨ret_bool HM.out.symm, HS.ex⟩

set_option maxRecDepth 100000 in
set_option maxHeartbeats 4000000 in
theorem memIn_any (v : Value) (ps : Pg) (a n : Int) (w : World) (k1 : Holds w ps [v]) (hl : ps.length ≤ 1099511627776) (ha : i64ok a) (hn : i64ok n) :
    Calls Try.prog 150 #[.agg #[v], .int .i64 a, .int .i64 n] w fun e w' => e = .returned (.bool (memInB ps a n)) ∧ Ex w w' := by
  obtain ⟨AA, cap, rfl, z1, z2⟩ := k1.fl
  unfold maxLen at z2
  unfold i64ok at hn ha
  cases hmo : memOk ps
  case false =>
    have HMO := hid hmo
    clear hmo
    have HM : Hid (memInB ps a n = false) := hid (by rw [Bool.eq_false_iff]; intro hc; rw [memInB_iff] at hc; have h := memOk_iff.2 hc.1; rw [HMO.out] at h; cases h)
    have HS := St.start w
    go_enter Try.func150, Try.ntmps150
    go_wp2_with (first
          | (go_at_call 148; (with_reducible refine (memoryOk_any _ ps _ (k1.ex HS.ex)).mono ?_); rintro e w' ⟨rfl, hx⟩; replace HS := HS.grow hx; clear hx; rw [HMO.out])
          | ((with_reducible (show wpList _ _ _ (Oper.mk (some 3) (Op.box _ _) _ _ _ _ :: _) _ _)); refine wpList_box_st (o := ⟨some 3, .box _ _, _, _, _, _⟩) rfl _ _ rfl (v := .agg (List.toArray _)) rfl HS ?_; clear HS; intro w3 b3 hb3 HS; simp only [Value.cells] at HS)
          | ((with_reducible (show wpList _ _ _ (Oper.mk (some 9) (Op.load _ _) _ _ _ _ :: _) _ _)); refine wpList_loadS_st (o := ⟨some 9, .load _ _, _, _, _, _⟩) rfl _ _ rfl rfl HS tk sc_Sstring rfx ?_)
          | ((with_reducible (show wpList _ _ _ (Oper.mk (some 12) (Op.load _ _) _ _ _ _ :: _) _ _)); refine wpList_loadA_st (o := ⟨some 12, .load _ _, _, _, _, _⟩) rfl _ _ rfl rfl HS tk ag_impl_Memory lit rfl ?_))
    go_ret
    exact ⟨ret_bool (by first | exact HM.out.symm | (rw [HM.out]; exact decide_eq_true (by omega)) | (rw [HM.out]; exact decide_eq_false (by omega))), HS.ex⟩
  case true =>
  have HMO := hid hmo
  clear hmo
  by_cases c0 : 0 ≤ n
  case neg =>
    have HM : Hid (memInB ps a n = false) := hid (by rw [Bool.eq_false_iff]; intro hc; rw [memInB_iff] at hc; omega)
    have HS := St.start w
    go_enter Try.func150, Try.ntmps150
    go_wp2_with (first
          | (go_at_call 148; (with_reducible refine (memoryOk_any _ ps _ (k1.ex HS.ex)).mono ?_); rintro e w' ⟨rfl, hx⟩; replace HS := HS.grow hx; clear hx; rw [HMO.out])
          | ((with_reducible (show wpList _ _ _ (Oper.mk (some 3) (Op.box _ _) _ _ _ _ :: _) _ _)); refine wpList_box_st (o := ⟨some 3, .box _ _, _, _, _, _⟩) rfl _ _ rfl (v := .agg (List.toArray _)) rfl HS ?_; clear HS; intro w3 b3 hb3 HS; simp only [Value.cells] at HS)
          | ((with_reducible (show wpList _ _ _ (Oper.mk (some 9) (Op.load _ _) _ _ _ _ :: _) _ _)); refine wpList_loadS_st (o := ⟨some 9, .load _ _, _, _, _, _⟩) rfl _ _ rfl rfl HS tk sc_Sstring rfx ?_)
          | ((with_reducible (show wpList _ _ _ (Oper.mk (some 12) (Op.load _ _) _ _ _ _ :: _) _ _)); refine wpList_loadA_st (o := ⟨some 12, .load _ _, _, _, _, _⟩) rfl _ _ rfl rfl HS tk ag_impl_Memory lit rfl ?_))
    go_ret
    exact ⟨ret_bool (by first | exact HM.out.symm | (rw [HM.out]; exact decide_eq_true (by omega)) | (rw [HM.out]; exact decide_eq_false (by omega))), HS.ex⟩
  case pos =>
  by_cases c1 : n ≤ 128 * (ps.length : Int)
  case neg =>
    have HM : Hid (memInB ps a n = false) := hid (by rw [Bool.eq_false_iff]; intro hc; rw [memInB_iff] at hc; omega)
    have HS := St.start w
    go_enter Try.func150, Try.ntmps150
    go_wp2_with (first
          | (go_at_call 148; (with_reducible refine (memoryOk_any _ ps _ (k1.ex HS.ex)).mono ?_); rintro e w' ⟨rfl, hx⟩; replace HS := HS.grow hx; clear hx; rw [HMO.out])
          | ((with_reducible (show wpList _ _ _ (Oper.mk (some 3) (Op.box _ _) _ _ _ _ :: _) _ _)); refine wpList_box_st (o := ⟨some 3, .box _ _, _, _, _, _⟩) rfl _ _ rfl (v := .agg (List.toArray _)) rfl HS ?_; clear HS; intro w3 b3 hb3 HS; simp only [Value.cells] at HS)
          | ((with_reducible (show wpList _ _ _ (Oper.mk (some 9) (Op.load _ _) _ _ _ _ :: _) _ _)); refine wpList_loadS_st (o := ⟨some 9, .load _ _, _, _, _, _⟩) rfl _ _ rfl rfl HS tk sc_Sstring rfx ?_)
          | ((with_reducible (show wpList _ _ _ (Oper.mk (some 12) (Op.load _ _) _ _ _ _ :: _) _ _)); refine wpList_loadA_st (o := ⟨some 12, .load _ _, _, _, _, _⟩) rfl _ _ rfl rfl HS tk ag_impl_Memory lit rfl ?_))
    go_ret
    exact ⟨ret_bool (by first | exact HM.out.symm | (rw [HM.out]; exact decide_eq_true (by omega)) | (rw [HM.out]; exact decide_eq_false (by omega))), HS.ex⟩
  case pos =>
  by_cases c2 : 0 ≤ a
  case neg =>
    have HM : Hid (memInB ps a n = false) := hid (by rw [Bool.eq_false_iff]; intro hc; rw [memInB_iff] at hc; omega)
    have HS := St.start w
    go_enter Try.func150, Try.ntmps150
    go_wp2_with (first
          | (go_at_call 148; (with_reducible refine (memoryOk_any _ ps _ (k1.ex HS.ex)).mono ?_); rintro e w' ⟨rfl, hx⟩; replace HS := HS.grow hx; clear hx; rw [HMO.out])
          | ((with_reducible (show wpList _ _ _ (Oper.mk (some 3) (Op.box _ _) _ _ _ _ :: _) _ _)); refine wpList_box_st (o := ⟨some 3, .box _ _, _, _, _, _⟩) rfl _ _ rfl (v := .agg (List.toArray _)) rfl HS ?_; clear HS; intro w3 b3 hb3 HS; simp only [Value.cells] at HS)
          | ((with_reducible (show wpList _ _ _ (Oper.mk (some 9) (Op.load _ _) _ _ _ _ :: _) _ _)); refine wpList_loadS_st (o := ⟨some 9, .load _ _, _, _, _, _⟩) rfl _ _ rfl rfl HS tk sc_Sstring rfx ?_)
          | ((with_reducible (show wpList _ _ _ (Oper.mk (some 12) (Op.load _ _) _ _ _ _ :: _) _ _)); refine wpList_loadA_st (o := ⟨some 12, .load _ _, _, _, _, _⟩) rfl _ _ rfl rfl HS tk ag_impl_Memory lit rfl ?_))
    go_ret
    exact ⟨ret_bool (by first | exact HM.out.symm | (rw [HM.out]; exact decide_eq_true (by omega)) | (rw [HM.out]; exact decide_eq_false (by omega))), HS.ex⟩
  case pos =>
  by_cases c3 : a ≤ 128 * (ps.length : Int) - n
  case neg =>
    have HM : Hid (memInB ps a n = false) := hid (by rw [Bool.eq_false_iff]; intro hc; rw [memInB_iff] at hc; omega)
    have HS := St.start w
    go_enter Try.func150, Try.ntmps150
    go_wp2_with (first
          | (go_at_call 148; (with_reducible refine (memoryOk_any _ ps _ (k1.ex HS.ex)).mono ?_); rintro e w' ⟨rfl, hx⟩; replace HS := HS.grow hx; clear hx; rw [HMO.out])
          | ((with_reducible (show wpList _ _ _ (Oper.mk (some 3) (Op.box _ _) _ _ _ _ :: _) _ _)); refine wpList_box_st (o := ⟨some 3, .box _ _, _, _, _, _⟩) rfl _ _ rfl (v := .agg (List.toArray _)) rfl HS ?_; clear HS; intro w3 b3 hb3 HS; simp only [Value.cells] at HS)
          | ((with_reducible (show wpList _ _ _ (Oper.mk (some 9) (Op.load _ _) _ _ _ _ :: _) _ _)); refine wpList_loadS_st (o := ⟨some 9, .load _ _, _, _, _, _⟩) rfl _ _ rfl rfl HS tk sc_Sstring rfx ?_)
          | ((with_reducible (show wpList _ _ _ (Oper.mk (some 12) (Op.load _ _) _ _ _ _ :: _) _ _)); refine wpList_loadA_st (o := ⟨some 12, .load _ _, _, _, _, _⟩) rfl _ _ rfl rfl HS tk ag_impl_Memory lit rfl ?_))
    go_ret
    exact ⟨ret_bool (by first | exact HM.out.symm | (rw [HM.out]; exact decide_eq_true (by omega)) | (rw [HM.out]; exact decide_eq_false (by omega))), HS.ex⟩
  case pos =>
    have HM : Hid (memInB ps a n = true) := hid (memInB_iff.2 ⟨memOk_iff.1 HMO.out, by omega, by omega, by omega, by omega⟩)
    have HS := St.start w
    go_enter Try.func150, Try.ntmps150
    go_wp2_with (first
          | (go_at_call 148; (with_reducible refine (memoryOk_any _ ps _ (k1.ex HS.ex)).mono ?_); rintro e w' ⟨rfl, hx⟩; replace HS := HS.grow hx; clear hx; rw [HMO.out])
          | ((with_reducible (show wpList _ _ _ (Oper.mk (some 3) (Op.box _ _) _ _ _ _ :: _) _ _)); refine wpList_box_st (o := ⟨some 3, .box _ _, _, _, _, _⟩) rfl _ _ rfl (v := .agg (List.toArray _)) rfl HS ?_; clear HS; intro w3 b3 hb3 HS; simp only [Value.cells] at HS)
          | ((with_reducible (show wpList _ _ _ (Oper.mk (some 9) (Op.load _ _) _ _ _ _ :: _) _ _)); refine wpList_loadS_st (o := ⟨some 9, .load _ _, _, _, _, _⟩) rfl _ _ rfl rfl HS tk sc_Sstring rfx ?_)
          | ((with_reducible (show wpList _ _ _ (Oper.mk (some 12) (Op.load _ _) _ _ _ _ :: _) _ _)); refine wpList_loadA_st (o := ⟨some 12, .load _ _, _, _, _, _⟩) rfl _ _ rfl rfl HS tk ag_impl_Memory lit rfl ?_))
    go_ret
    exact ⟨ret_bool (by first | exact HM.out.symm | (rw [HM.out]; exact decide_eq_true (by omega)) | (rw [HM.out]; exact decide_eq_false (by omega))), HS.ex⟩

set_option maxRecDepth 100000 in
set_option maxHeartbeats 4000000 in
theorem memInS_any (v : Value) (ps : Pg) (a n : Int) (w : World) (k1 : Holds w ps [v]) (hl : ps.length ≤ 1099511627776) (ha : i64ok a) (hn : i64ok n) :
    Calls Try.prog 143 #[.agg #[v], .int .i64 a, .int .i64 n] w fun e w' => e = .returned (.bool (memInB ps a n)) ∧ Ex w w' := by
  obtain ⟨AA, cap, rfl, z1, z2⟩ := k1.fl
  unfold maxLen at z2
  unfold i64ok at hn ha
  cases hmo : memOk ps
  case false =>
    have HMO := hid hmo
    clear hmo
    have HM : Hid (memInB ps a n = false) := hid (by rw [Bool.eq_false_iff]; intro hc; rw [memInB_iff] at hc; have h := memOk_iff.2 hc.1; rw [HMO.out] at h; cases h)
    have HS := St.start w
    go_enter Try.func143, Try.ntmps143
    go_wp2_with (first
          | (go_at_call 151; (with_reducible refine (memoryOkS_any _ ps _ (k1.ex HS.ex)).mono ?_); rintro e w' ⟨rfl, hx⟩; replace HS := HS.grow hx; clear hx; rw [HMO.out])
          | ((with_reducible (show wpList _ _ _ (Oper.mk (some 3) (Op.box _ _) _ _ _ _ :: _) _ _)); refine wpList_box_st (o := ⟨some 3, .box _ _, _, _, _, _⟩) rfl _ _ rfl (v := .agg (List.toArray _)) rfl HS ?_; clear HS; intro w3 b3 hb3 HS; simp only [Value.cells] at HS)
          | ((with_reducible (show wpList _ _ _ (Oper.mk (some 9) (Op.load _ _) _ _ _ _ :: _) _ _)); refine wpList_loadS_st (o := ⟨some 9, .load _ _, _, _, _, _⟩) rfl _ _ rfl rfl HS tk sc_Sstring rfx ?_)
          | ((with_reducible (show wpList _ _ _ (Oper.mk (some 12) (Op.load _ _) _ _ _ _ :: _) _ _)); refine wpList_loadA_st (o := ⟨some 12, .load _ _, _, _, _, _⟩) rfl _ _ rfl rfl HS tk ag_impl_Memory lit rfl ?_))
    go_ret
    exact ⟨ret_bool (by first | exact HM.out.symm | (rw [HM.out]; exact decide_eq_true (by omega)) | (rw [HM.out]; exact decide_eq_false (by omega))), HS.ex⟩
  case true =>
  have HMO := hid hmo
  clear hmo
  by_cases c0 : 0 ≤ n
  case neg =>
    have HM : Hid (memInB ps a n = false) := hid (by rw [Bool.eq_false_iff]; intro hc; rw [memInB_iff] at hc; omega)
    have HS := St.start w
    go_enter Try.func143, Try.ntmps143
    go_wp2_with (first
          | (go_at_call 151; (with_reducible refine (memoryOkS_any _ ps _ (k1.ex HS.ex)).mono ?_); rintro e w' ⟨rfl, hx⟩; replace HS := HS.grow hx; clear hx; rw [HMO.out])
          | ((with_reducible (show wpList _ _ _ (Oper.mk (some 3) (Op.box _ _) _ _ _ _ :: _) _ _)); refine wpList_box_st (o := ⟨some 3, .box _ _, _, _, _, _⟩) rfl _ _ rfl (v := .agg (List.toArray _)) rfl HS ?_; clear HS; intro w3 b3 hb3 HS; simp only [Value.cells] at HS)
          | ((with_reducible (show wpList _ _ _ (Oper.mk (some 9) (Op.load _ _) _ _ _ _ :: _) _ _)); refine wpList_loadS_st (o := ⟨some 9, .load _ _, _, _, _, _⟩) rfl _ _ rfl rfl HS tk sc_Sstring rfx ?_)
          | ((with_reducible (show wpList _ _ _ (Oper.mk (some 12) (Op.load _ _) _ _ _ _ :: _) _ _)); refine wpList_loadA_st (o := ⟨some 12, .load _ _, _, _, _, _⟩) rfl _ _ rfl rfl HS tk ag_impl_Memory lit rfl ?_))
    go_ret
    exact ⟨ret_bool (by first | exact HM.out.symm | (rw [HM.out]; exact decide_eq_true (by omega)) | (rw [HM.out]; exact decide_eq_false (by omega))), HS.ex⟩
  case pos =>
  by_cases c1 : 0 ≤ a
  case neg =>
    have HM : Hid (memInB ps a n = false) := hid (by rw [Bool.eq_false_iff]; intro hc; rw [memInB_iff] at hc; omega)
    have HS := St.start w
    go_enter Try.func143, Try.ntmps143
    go_wp2_with (first
          | (go_at_call 151; (with_reducible refine (memoryOkS_any _ ps _ (k1.ex HS.ex)).mono ?_); rintro e w' ⟨rfl, hx⟩; replace HS := HS.grow hx; clear hx; rw [HMO.out])
          | ((with_reducible (show wpList _ _ _ (Oper.mk (some 3) (Op.box _ _) _ _ _ _ :: _) _ _)); refine wpList_box_st (o := ⟨some 3, .box _ _, _, _, _, _⟩) rfl _ _ rfl (v := .agg (List.toArray _)) rfl HS ?_; clear HS; intro w3 b3 hb3 HS; simp only [Value.cells] at HS)
          | ((with_reducible (show wpList _ _ _ (Oper.mk (some 9) (Op.load _ _) _ _ _ _ :: _) _ _)); refine wpList_loadS_st (o := ⟨some 9, .load _ _, _, _, _, _⟩) rfl _ _ rfl rfl HS tk sc_Sstring rfx ?_)
          | ((with_reducible (show wpList _ _ _ (Oper.mk (some 12) (Op.load _ _) _ _ _ _ :: _) _ _)); refine wpList_loadA_st (o := ⟨some 12, .load _ _, _, _, _, _⟩) rfl _ _ rfl rfl HS tk ag_impl_Memory lit rfl ?_))
    go_ret
    exact ⟨ret_bool (by first | exact HM.out.symm | (rw [HM.out]; exact decide_eq_true (by omega)) | (rw [HM.out]; exact decide_eq_false (by omega))), HS.ex⟩
  case pos =>
  by_cases c2 : a ≤ 128 * (ps.length : Int)
  case neg =>
    have HM : Hid (memInB ps a n = false) := hid (by rw [Bool.eq_false_iff]; intro hc; rw [memInB_iff] at hc; omega)
    have HS := St.start w
    go_enter Try.func143, Try.ntmps143
    go_wp2_with (first
          | (go_at_call 151; (with_reducible refine (memoryOkS_any _ ps _ (k1.ex HS.ex)).mono ?_); rintro e w' ⟨rfl, hx⟩; replace HS := HS.grow hx; clear hx; rw [HMO.out])
          | ((with_reducible (show wpList _ _ _ (Oper.mk (some 3) (Op.box _ _) _ _ _ _ :: _) _ _)); refine wpList_box_st (o := ⟨some 3, .box _ _, _, _, _, _⟩) rfl _ _ rfl (v := .agg (List.toArray _)) rfl HS ?_; clear HS; intro w3 b3 hb3 HS; simp only [Value.cells] at HS)
          | ((with_reducible (show wpList _ _ _ (Oper.mk (some 9) (Op.load _ _) _ _ _ _ :: _) _ _)); refine wpList_loadS_st (o := ⟨some 9, .load _ _, _, _, _, _⟩) rfl _ _ rfl rfl HS tk sc_Sstring rfx ?_)
          | ((with_reducible (show wpList _ _ _ (Oper.mk (some 12) (Op.load _ _) _ _ _ _ :: _) _ _)); refine wpList_loadA_st (o := ⟨some 12, .load _ _, _, _, _, _⟩) rfl _ _ rfl rfl HS tk ag_impl_Memory lit rfl ?_))
    go_ret
    exact ⟨ret_bool (by first | exact HM.out.symm | (rw [HM.out]; exact decide_eq_true (by omega)) | (rw [HM.out]; exact decide_eq_false (by omega))), HS.ex⟩
  case pos =>
  by_cases c3 : n ≤ 128 * (ps.length : Int) - a
  case neg =>
    have HM : Hid (memInB ps a n = false) := hid (by rw [Bool.eq_false_iff]; intro hc; rw [memInB_iff] at hc; omega)
    have HS := St.start w
    go_enter Try.func143, Try.ntmps143
    go_wp2_with (first
          | (go_at_call 151; (with_reducible refine (memoryOkS_any _ ps _ (k1.ex HS.ex)).mono ?_); rintro e w' ⟨rfl, hx⟩; replace HS := HS.grow hx; clear hx; rw [HMO.out])
          | ((with_reducible (show wpList _ _ _ (Oper.mk (some 3) (Op.box _ _) _ _ _ _ :: _) _ _)); refine wpList_box_st (o := ⟨some 3, .box _ _, _, _, _, _⟩) rfl _ _ rfl (v := .agg (List.toArray _)) rfl HS ?_; clear HS; intro w3 b3 hb3 HS; simp only [Value.cells] at HS)
          | ((with_reducible (show wpList _ _ _ (Oper.mk (some 9) (Op.load _ _) _ _ _ _ :: _) _ _)); refine wpList_loadS_st (o := ⟨some 9, .load _ _, _, _, _, _⟩) rfl _ _ rfl rfl HS tk sc_Sstring rfx ?_)
          | ((with_reducible (show wpList _ _ _ (Oper.mk (some 12) (Op.load _ _) _ _ _ _ :: _) _ _)); refine wpList_loadA_st (o := ⟨some 12, .load _ _, _, _, _, _⟩) rfl _ _ rfl rfl HS tk ag_impl_Memory lit rfl ?_))
    go_ret
    exact ⟨ret_bool (by first | exact HM.out.symm | (rw [HM.out]; exact decide_eq_true (by omega)) | (rw [HM.out]; exact decide_eq_false (by omega))), HS.ex⟩
  case pos =>
    have HM : Hid (memInB ps a n = true) := hid (memInB_iff.2 ⟨memOk_iff.1 HMO.out, by omega, by omega, by omega, by omega⟩)
    have HS := St.start w
    go_enter Try.func143, Try.ntmps143
    go_wp2_with (first
          | (go_at_call 151; (with_reducible refine (memoryOkS_any _ ps _ (k1.ex HS.ex)).mono ?_); rintro e w' ⟨rfl, hx⟩; replace HS := HS.grow hx; clear hx; rw [HMO.out])
          | ((with_reducible (show wpList _ _ _ (Oper.mk (some 3) (Op.box _ _) _ _ _ _ :: _) _ _)); refine wpList_box_st (o := ⟨some 3, .box _ _, _, _, _, _⟩) rfl _ _ rfl (v := .agg (List.toArray _)) rfl HS ?_; clear HS; intro w3 b3 hb3 HS; simp only [Value.cells] at HS)
          | ((with_reducible (show wpList _ _ _ (Oper.mk (some 9) (Op.load _ _) _ _ _ _ :: _) _ _)); refine wpList_loadS_st (o := ⟨some 9, .load _ _, _, _, _, _⟩) rfl _ _ rfl rfl HS tk sc_Sstring rfx ?_)
          | ((with_reducible (show wpList _ _ _ (Oper.mk (some 12) (Op.load _ _) _ _ _ _ :: _) _ _)); refine wpList_loadA_st (o := ⟨some 12, .load _ _, _, _, _, _⟩) rfl _ _ rfl rfl HS tk ag_impl_Memory lit rfl ?_))
    go_ret
    exact ⟨ret_bool (by first | exact HM.out.symm | (rw [HM.out]; exact decide_eq_true (by omega)) | (rw [HM.out]; exact decide_eq_false (by omega))), HS.ex⟩

def placeF (l : List Mp) (d a : Int) (wt : Bool) : Int := if mpPage l d (a / 128) wt < 0 then -1 else mpPage l d (a / 128) wt * 128 + a % 128

set_option maxRecDepth 100000 in
set_option maxHeartbeats 4000000 in
theorem place_any (v : Value) (l : List Mp) (d a : Int) (wt : Bool) (w : World) (k1 : Holds w l [v]) (hm : MapsOk l) (ha : i64ok a) (h0 : 0 ≤ a) :
    Calls Try.prog 149 #[v, .int .i64 d, .int .i64 a, .bool wt] w fun e w' => e = .returned (.int .i64 (placeF l d a wt)) ∧ Ex w w' := by
  obtain ⟨AA, cap, rfl, z1, z2⟩ := k1.fl
  unfold maxLen at z2
  unfold i64ok at ha
  have q1 : a.tdiv 128 = a / 128 := Int.tdiv_eq_ediv_of_nonneg h0
  have q2 : a.tmod 128 = a % 128 := Int.tmod_eq_emod_of_nonneg h0
  rcases mp_first l d (a / 128) with h | ⟨k, hk, h1, h2⟩
  · have HI := hid (mpIdx_no h)
    have HM : Hid (placeF l d a wt = -1) := hid (by unfold placeF; rw [mpPage_no h]; first | done | rfl)
    clear h
    have HS := St.start w
    go_enter Try.func149, Try.ntmps149
    go_wp2_with (first
          | (go_at_call 159; (with_reducible refine (pageMapping_any _ l d (a / 128) _ (k1.ex HS.ex)).mono ?_); rintro e w' ⟨rfl, hx⟩; replace HS := HS.grow hx; clear hx; rw [HI.out]))
    go_ret
    exact ⟨ret_int HM.out.symm, HS.ex⟩
  · obtain ⟨b, off, rfl⟩ := k1.flA (by omega)
    have HI := hid (mpIdx_at hk h1 h2)
    have HP := hid (mpPage_at hk h1 h2 wt)
    have hfin := (hm.2 k hk).1.2.2
    have HK := hid (List.getElem?_eq_getElem hk)
    clear h1 h2
    generalize hx : l[k] = x at *
    obtain ⟨xd, xv, xp, xw⟩ := x
    simp only at hfin
    have hf1 := hfin.1
    have hf2 := hfin.2
    clear hx hfin
    replace hm := hid hm
    cases hu : (wt && !xw)
    case true =>
      have HM : Hid (placeF l d a wt = -1) := hid (by unfold placeF; rw [HP.out]; simp only [hu]; rfl)
      simp only [Bool.and_eq_true, Bool.not_eq_true'] at hu
      obtain ⟨rfl, rfl⟩ := hu
      have HS := St.start w
      go_enter Try.func149, Try.ntmps149
      go_wp2_with (first
            | (go_at_call 159; (with_reducible refine (pageMapping_any _ l d (a / 128) _ (k1.ex HS.ex)).mono ?_); rintro e w' ⟨rfl, hx⟩; replace HS := HS.grow hx; clear hx; rw [HI.out])
            | ((with_reducible (show wpList _ _ _ (Oper.mk (some 26) (Op.load _ _) _ _ _ _ :: _) _ _)); refine wpList_loadHF (o := ⟨some 26, .load _ _, _, _, _, _⟩) rfl _ _ rfl rfl HS (fun _ hs => k1.ex hs.ex) HK.out 4 3 (by first | rfl | (simp; done) | omega) rfl (by decide) sc_bool flt ?_))
      go_ret
      exact ⟨ret_int HM.out.symm, HS.ex⟩
    case false =>
      have HM : Hid (placeF l d a wt = xp * 128 + a % 128) := hid (by unfold placeF; rw [HP.out]; simp only [hu]; simp; omega)
      cases wt
      case false =>
        clear hu
        have HS := St.start w
        go_enter Try.func149, Try.ntmps149
        go_wp2_with (first
              | (go_at_call 159; (with_reducible refine (pageMapping_any _ l d (a / 128) _ (k1.ex HS.ex)).mono ?_); rintro e w' ⟨rfl, hx⟩; replace HS := HS.grow hx; clear hx; rw [HI.out])
              | ((with_reducible (show wpList _ _ _ (Oper.mk (some 34) (Op.load _ _) _ _ _ _ :: _) _ _)); refine wpList_loadHF (o := ⟨some 34, .load _ _, _, _, _, _⟩) rfl _ _ rfl rfl HS (fun _ hs => k1.ex hs.ex) HK.out 4 2 (by first | rfl | (simp; done) | omega) rfl (by decide) sc_int flt ?_))
        go_ret
        exact ⟨ret_int HM.out.symm, HS.ex⟩
      case true =>
        cases xw
        case false => cases hu
        case true =>
        clear hu
        have HS := St.start w
        go_enter Try.func149, Try.ntmps149
        go_wp2_with (first
              | (go_at_call 159; (with_reducible refine (pageMapping_any _ l d (a / 128) _ (k1.ex HS.ex)).mono ?_); rintro e w' ⟨rfl, hx⟩; replace HS := HS.grow hx; clear hx; rw [HI.out])
              | ((with_reducible (show wpList _ _ _ (Oper.mk (some 26) (Op.load _ _) _ _ _ _ :: _) _ _)); refine wpList_loadHF (o := ⟨some 26, .load _ _, _, _, _, _⟩) rfl _ _ rfl rfl HS (fun _ hs => k1.ex hs.ex) HK.out 4 3 (by first | rfl | (simp; done) | omega) rfl (by decide) sc_bool flt ?_)
              | ((with_reducible (show wpList _ _ _ (Oper.mk (some 34) (Op.load _ _) _ _ _ _ :: _) _ _)); refine wpList_loadHF (o := ⟨some 34, .load _ _, _, _, _, _⟩) rfl _ _ rfl rfl HS (fun _ hs => k1.ex hs.ex) HK.out 4 2 (by first | rfl | (simp; done) | omega) rfl (by decide) sc_int flt ?_))
        go_ret
        exact ⟨ret_int HM.out.symm, HS.ex⟩

end Go.Proofs.Ytelkplponnfkpaa
