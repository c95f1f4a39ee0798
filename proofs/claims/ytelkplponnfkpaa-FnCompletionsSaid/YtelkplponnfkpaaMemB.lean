/- Reading and writing a part of a page: the program and the reference. -/
import Derived.Test.YtelkplponnfkpaaRows
import Derived.Test.YtelkplponnfkpaaMemA
import Derived.Test.YtelkplponnfkpaaStr
import Derived.Test.YtelkplponnfkpaaTk
namespace Go.Proofs.Ytelkplponnfkpaa
open Go.RowKit
set_option linter.unusedVariables false
set_option linter.unusedSimpArgs false

theorem ret_strb {a b : ByteArray} {v : Bool} (h : a = b) : Ending.returned (.tuple #[.string a, .bool v]) = .returned (.tuple #[.string b, .bool v]) := by rw [h]
theorem ba_nil : (⟨#[]⟩ : ByteArray).size = 0 := rfl
theorem bc_nil : byteCells ⟨#[]⟩ = [] := rfl
theorem ba_empty (s : ByteArray) : (⟨#[]⟩ : ByteArray) ++ s = s := ByteArray.empty_append
theorem ba_full (s : ByteArray) : s.extract s.size s.size = ⟨#[]⟩ := by
  apply ByteArray.ext
  rw [ByteArray.data_extract]
  exact Array.eq_empty_of_size_eq_zero (by rw [Array.size_extract]; omega)
theorem ba_all (s : ByteArray) : s.extract 0 s.size = s := ByteArray.extract_zero_size

set_option maxRecDepth 100000 in
set_option maxHeartbeats 4000000 in
theorem readMemory_seg (v : Value) (ps : Pg) (a n : Int) (w : World) (k1 : Holds w ps [v]) (hm : MemOk ps) (ha : i64ok a) (hs : Seg ps.length (a, n)) :
    Calls Try.prog 120 #[.agg #[v], .int .i64 a, .int .i64 n] w fun e w' => e = .returned (.tuple #[.string (readSeg ps (a, n)), .bool true]) ∧ Ex w w' := by
  obtain ⟨AA, cap, rfl, z1, z2⟩ := k1.fl
  unfold maxLen at z2
  obtain ⟨g0, g1, g2, g3⟩ := hs
  simp only at g0 g1 g2 g3
  have hm1 := hm.1
  obtain ⟨gp, gq, gs⟩ := hm.page g0 g3
  obtain ⟨b, off, rfl⟩ := k1.flA (by omega)
  obtain ⟨N, rfl⟩ := Int.eq_ofNat_of_zero_le (show 0 ≤ n by omega)
  generalize hpn : (a / 128).toNat = p at gp gq
  have hp : (p : Int) = a / 128 := by omega
  obtain ⟨r, hr⟩ : ∃ r : Nat, (r : Int) = a % 128 := ⟨(a % 128).toNat, by omega⟩
  have hrn : (a % 128).toNat = r := by omega
  have q1 : a.tdiv 128 = (p : Int) := by rw [Int.tdiv_eq_ediv_of_nonneg g0]; omega
  have q2 : a.tmod 128 = (r : Int) := by rw [Int.tmod_eq_emod_of_nonneg g0]; omega
  have q3 : a / 128 = (p : Int) := by omega
  have q4 : a % 128 = (r : Int) := by omega
  have g4 : (r : Int) + N ≤ 128 := by omega
  clear hr hp
  have HW : Hid (memInB ps a N = true) := hid (memInB_iff.2 ⟨hm, by omega, by omega, by omega, by omega⟩)
  obtain ⟨S, hS⟩ : ∃ S, S = readSeg ps (a, (N : Int)) := ⟨_, rfl⟩
  have HSS := hid hS
  have hSz : S.size = N := by rw [hS, readSeg_size hm ⟨g0, g1, g2, g3⟩]; rfl
  have HK := hid (List.getElem?_eq_getElem gp)
  have hxs : S = ps[p].extract r ((r : Int) + N).toNat := by rw [hS]; unfold readSeg; simp only [gq, hrn]; rw [show ((r : Int) + N).toNat = r + N from by omega]; rfl
  generalize hx : ps[p] = x at *
  rw [gq] at gs
  clear hx hS gq
  have hps : (x.extract r ((r : Int) + N).toNat).size = N := by rw [← hxs]; exact hSz
  have HPS := hid hps
  clear hps
  have hmin : min (128 : Int) ((r : Int) + N) = (r : Int) + N := by omega
  have HX := hid hxs
  have HZ := hid hSz
  have HG := hid gs
  clear hxs hSz
  have HS := St.start w
  go_enter Try.func120, Try.ntmps120
  go_wp2_with (first
        | (go_at_call 150; (with_reducible refine (memIn_any _ ps a N _ (k1.ex HS.ex) (by omega) ha (by unfold i64ok; omega)).mono ?_); rintro e w' ⟨rfl, hx⟩; rw [HW.out]; replace HS := HS.grow hx; clear hx)
        | ((with_reducible (show wpList _ _ _ (Oper.mk (some 3) (Op.box _ _) _ _ _ _ :: _) _ _)); refine wpList_box_st (o := ⟨some 3, .box _ _, _, _, _, _⟩) rfl _ _ rfl (v := .agg (List.toArray _)) rfl HS ?_; clear HS; intro w3 b3 hb3 HS; simp only [Value.cells] at HS)
        | ((with_reducible (show wpList _ _ _ (Oper.mk (some 12) (Op.load _ _) _ _ _ _ :: _) _ _)); refine wpList_loadA_st (o := ⟨some 12, .load _ _, _, _, _, _⟩) rfl _ _ rfl rfl HS tk ag_impl_Memory lit rfl ?_)
        | ((with_reducible (show wpList _ _ _ (Oper.mk (some 18) (Op.makeSlice _ _ _) _ _ _ _ :: _) _ _)); refine wpList_make0_st (o := ⟨some 18, .makeSlice _ _ _, _, _, _, _⟩) rfl _ _ _ rfl _ Try.underlying22 in_uint8 (n := N) rfl rfl (by omega) mxl HS ?_; clear HS; intro w18 b18 hb18 HS))
  go_loopw [1, 8] (fun i ov wr => ∃ (s : ByteArray) (A : Option Addr) (c : Nat), ((s = ⟨#[]⟩ ∧ i = .int .i64 a) ∨ (s = S ∧ i = .int .i64 (a + N))) ∧ ov = .slice A s.size c ∧ St w wr [rowA b3 [.slice (some ⟨b, off, none⟩) ps.length cap] 27, slotA 5 1 (.slice A s.size c) s.size (byteCells s)]) (fun i _ _ => (a + N - intOf i).toNat)
  case atStart => exact ⟨⟨#[]⟩, _, _, .inl ⟨rfl, rfl⟩, rfl, (HS.arr (by repeat (first | exact Arr.nil | (with_reducible exact take_all _) | (refine Arr.cons tk ?_) | (refine arr_skip ?_))))⟩
  case round =>
    clear HS
    obtain ⟨s, A, c, hcase, rfl, HS⟩ := hrel
    rcases hcase with ⟨rfl, rfl⟩ | ⟨rfl, rfl⟩
    · simp only [ba_nil, bc_nil] at HS ⊢
      rcases (by omega : (r : Int) + N < 128 ∨ (r : Int) + N = 128) with hlt | heq
      · go_wp2_with (first
              | ((with_reducible (show wpList _ _ _ (Oper.mk (some 24) (Op.load _ _) _ _ _ _ :: _) _ _)); refine wpList_loadS_st (o := ⟨some 24, .load _ _, _, _, _, _⟩) rfl _ _ rfl rfl HS tk sc_Sstring rfx ?_)
              | ((with_reducible (show wpList _ _ _ (Oper.mk (some 28) (Op.load _ _) _ _ _ _ :: _) _ _)); refine wpList_loadHF (o := ⟨some 28, .load _ _, _, _, _, _⟩) rfl _ _ rfl rfl HS (fun _ hs => k1.ex hs.ex) HK.out 1 0 (by first | rfl | (simp; done) | omega) rfl (by decide) sc_string flt ?_)
              | ((with_reducible (show wpList _ _ _ (Oper.mk (some 43) (Op.call { callee := .builtin .append, args := _, argTypes := _ }) _ _ _ _ :: _) _ _)); refine wpList_appN_st (N := N) (o := ⟨some 43, .call { callee := .builtin .append, args := _, argTypes := _ }, _, _, _, _⟩) rfl _ _ _ _ rfl _ Try.underlying22 in_uint8 rfl HS tk rfl (Src.ofString _ Try.underlying9 _) (by rw [Nat.zero_add]; first | exact HPS.out | (rw [ByteArray.size_extract, HG.out]; split <;> omega) | (rw [ByteArray.size_extract, HG.out]; simp; omega)) mxl (by omega) ?_; clear HS; intro a43 c43 w43 hb43 HS))
        go_roundw
        case rel => exact ⟨S, _, _, .inr ⟨rfl, by congr 1; omega⟩, by rw [HZ.out], by rw [HZ.out, HX.out]; exact (HS.arr (by repeat (first | exact Arr.nil | (with_reducible exact take_all _) | (refine Arr.cons tk ?_) | (refine arr_skip ?_))))⟩
        case measure => simp [intOf]; omega
      · rw [heq] at HX
        have e0 : ¬ ((r : Int) + N < 128) := by omega
        go_wp2_with (first
              | ((with_reducible (show wpList _ _ _ (Oper.mk (some 24) (Op.load _ _) _ _ _ _ :: _) _ _)); refine wpList_loadS_st (o := ⟨some 24, .load _ _, _, _, _, _⟩) rfl _ _ rfl rfl HS tk sc_Sstring rfx ?_)
              | ((with_reducible (show wpList _ _ _ (Oper.mk (some 28) (Op.load _ _) _ _ _ _ :: _) _ _)); refine wpList_loadHF (o := ⟨some 28, .load _ _, _, _, _, _⟩) rfl _ _ rfl rfl HS (fun _ hs => k1.ex hs.ex) HK.out 1 0 (by first | rfl | (simp; done) | omega) rfl (by decide) sc_string flt ?_)
              | ((with_reducible (show wpList _ _ _ (Oper.mk (some 43) (Op.call { callee := .builtin .append, args := _, argTypes := _ }) _ _ _ _ :: _) _ _)); refine wpList_appN_st (N := N) (o := ⟨some 43, .call { callee := .builtin .append, args := _, argTypes := _ }, _, _, _, _⟩) rfl _ _ _ _ rfl _ Try.underlying22 in_uint8 rfl HS tk rfl (Src.ofString _ Try.underlying9 _) (by rw [Nat.zero_add]; first | exact HPS.out | (rw [ByteArray.size_extract, HG.out]; split <;> omega) | (rw [ByteArray.size_extract, HG.out]; simp; omega)) mxl (by omega) ?_; clear HS; intro a43 c43 w43 hb43 HS))
        go_roundw
        case rel => exact ⟨S, _, _, .inr ⟨rfl, by congr 1; omega⟩, by rw [HZ.out], by rw [HZ.out, HX.out]; exact (HS.arr (by repeat (first | exact Arr.nil | (with_reducible exact take_all _) | (refine Arr.cons tk ?_) | (refine arr_skip ?_))))⟩
        case measure => simp [intOf]; omega
    · simp only [HZ.out] at HS ⊢
      go_wp2_with (first
            | ((with_reducible (show wpList _ _ _ (Oper.mk (some 49) (Op.convert _ _ _) _ _ _ _ :: _) _ _)); refine wpList_backS_st (o := ⟨some 49, .convert _ _ _, _, _, _, _⟩) rfl _ _ _ rfl _ Try.underlying22 Try.underlying5 Try.underlying9 rfl HS tk ?_))
      go_ret2
      exact ⟨ret_strb HSS.out, HS.ex⟩

set_option maxRecDepth 100000 in
set_option maxHeartbeats 4000000 in
theorem readMemoryS_seg (v : Value) (ps : Pg) (a n : Int) (w : World) (k1 : Holds w ps [v]) (hm : MemOk ps) (ha : i64ok a) (hs : Seg ps.length (a, n)) :
    Calls Try.prog 126 #[.agg #[v], .int .i64 a, .int .i64 n] w fun e w' => e = .returned (.tuple #[.string (readSeg ps (a, n)), .bool true]) ∧ Ex w w' := by
  obtain ⟨AA, cap, rfl, z1, z2⟩ := k1.fl
  unfold maxLen at z2
  obtain ⟨g0, g1, g2, g3⟩ := hs
  simp only at g0 g1 g2 g3
  have hm1 := hm.1
  obtain ⟨gp, gq, gs⟩ := hm.page g0 g3
  obtain ⟨b, off, rfl⟩ := k1.flA (by omega)
  obtain ⟨N, rfl⟩ := Int.eq_ofNat_of_zero_le (show 0 ≤ n by omega)
  generalize hpn : (a / 128).toNat = p at gp gq
  have hp : (p : Int) = a / 128 := by omega
  obtain ⟨r, hr⟩ : ∃ r : Nat, (r : Int) = a % 128 := ⟨(a % 128).toNat, by omega⟩
  have hrn : (a % 128).toNat = r := by omega
  have q1 : a.tdiv 128 = (p : Int) := by rw [Int.tdiv_eq_ediv_of_nonneg g0]; omega
  have q2 : a.tmod 128 = (r : Int) := by rw [Int.tmod_eq_emod_of_nonneg g0]; omega
  have q3 : a / 128 = (p : Int) := by omega
  have q4 : a % 128 = (r : Int) := by omega
  have g4 : (r : Int) + N ≤ 128 := by omega
  clear hr hp
  have HW : Hid (memInB ps a N = true) := hid (memInB_iff.2 ⟨hm, by omega, by omega, by omega, by omega⟩)
  obtain ⟨S, hS⟩ : ∃ S, S = readSeg ps (a, (N : Int)) := ⟨_, rfl⟩
  have HSS := hid hS
  have hSz : S.size = N := by rw [hS, readSeg_size hm ⟨g0, g1, g2, g3⟩]; rfl
  have HK := hid (List.getElem?_eq_getElem gp)
  have hxs : S = ps[p].extract r ((r : Int) + N).toNat := by rw [hS]; unfold readSeg; simp only [gq, hrn]; rw [show ((r : Int) + N).toNat = r + N from by omega]; rfl
  generalize hx : ps[p] = x at *
  rw [gq] at gs
  clear hx hS gq
  have hps : (x.extract r ((r : Int) + N).toNat).size = N := by rw [← hxs]; exact hSz
  have HPS := hid hps
  clear hps
  have hmin : min (128 : Int) ((r : Int) + N) = (r : Int) + N := by omega
  have HX := hid hxs
  have HZ := hid hSz
  have HG := hid gs
  clear hxs hSz
  have HS := St.start w
  go_enter Try.func126, Try.ntmps126
  go_wp2_with (first
        | (go_at_call 143; (with_reducible refine (memInS_any _ ps a N _ (k1.ex HS.ex) (by omega) ha (by unfold i64ok; omega)).mono ?_); rintro e w' ⟨rfl, hx⟩; rw [HW.out]; replace HS := HS.grow hx; clear hx)
        | ((with_reducible (show wpList _ _ _ (Oper.mk (some 3) (Op.box _ _) _ _ _ _ :: _) _ _)); refine wpList_box_st (o := ⟨some 3, .box _ _, _, _, _, _⟩) rfl _ _ rfl (v := .agg (List.toArray _)) rfl HS ?_; clear HS; intro w3 b3 hb3 HS; simp only [Value.cells] at HS)
        | ((with_reducible (show wpList _ _ _ (Oper.mk (some 11) (Op.load _ _) _ _ _ _ :: _) _ _)); refine wpList_loadA_st (o := ⟨some 11, .load _ _, _, _, _, _⟩) rfl _ _ rfl rfl HS tk ag_impl_Memory lit rfl ?_))
  go_loopw [1, 2, 8] (fun i n ov wr => ∃ s : ByteArray, ((s = ⟨#[]⟩ ∧ i = .int .i64 a ∧ n = .int .i64 N) ∨ (s = S ∧ i = .int .i64 (a + N) ∧ n = .int .i64 0)) ∧ ov = .string s ∧ St w wr [rowA b3 [.slice (some ⟨b, off, none⟩) ps.length cap] 27]) (fun i _ _ _ => (a + N - intOf i).toNat)
  case atStart => exact ⟨⟨#[]⟩, .inl ⟨rfl, rfl, rfl⟩, rfl, (HS.arr (by repeat (first | exact Arr.nil | (with_reducible exact take_all _) | (refine Arr.cons tk ?_) | (refine arr_skip ?_))))⟩
  case round =>
    clear HS
    obtain ⟨s, hcase, rfl, HS⟩ := hrel
    rcases hcase with ⟨rfl, rfl, rfl⟩ | ⟨rfl, rfl, rfl⟩
    · rcases (by omega : (N : Int) < 128 - r ∨ (N : Int) = 128 - r) with hlt | heq
      · go_wp2_with (first
              | ((with_reducible (show wpList _ _ _ (Oper.mk (some 26) (Op.load _ _) _ _ _ _ :: _) _ _)); refine wpList_loadS_st (o := ⟨some 26, .load _ _, _, _, _, _⟩) rfl _ _ rfl rfl HS tk sc_Sstring rfx ?_)
              | ((with_reducible (show wpList _ _ _ (Oper.mk (some 30) (Op.load _ _) _ _ _ _ :: _) _ _)); refine wpList_loadHF (o := ⟨some 30, .load _ _, _, _, _, _⟩) rfl _ _ rfl rfl HS (fun _ hs => k1.ex hs.ex) HK.out 1 0 (by first | rfl | (simp; done) | omega) rfl (by decide) sc_string flt ?_))
        go_roundw
        case rel => exact ⟨S, .inr ⟨rfl, (by first | rfl | (congr 1; omega)), (by first | rfl | (congr 1; omega))⟩, (by rw [ba_empty, HX.out]; congr 2; try omega), (HS.arr (by repeat (first | exact Arr.nil | (with_reducible exact take_all _) | (refine Arr.cons tk ?_) | (refine arr_skip ?_))))⟩
        case measure => simp [intOf]; omega
      · have e0 : ¬ ((N : Int) < 128 - r) := by omega
        have e1 : (r : Int) + (128 - r) = 128 := by omega
        rw [show (r : Int) + N = r + (128 - r) from by omega] at HX
        have HEQ := hid heq
        clear heq
        go_wp2_with (first
              | ((with_reducible (show wpList _ _ _ (Oper.mk (some 26) (Op.load _ _) _ _ _ _ :: _) _ _)); refine wpList_loadS_st (o := ⟨some 26, .load _ _, _, _, _, _⟩) rfl _ _ rfl rfl HS tk sc_Sstring rfx ?_)
              | ((with_reducible (show wpList _ _ _ (Oper.mk (some 30) (Op.load _ _) _ _ _ _ :: _) _ _)); refine wpList_loadHF (o := ⟨some 30, .load _ _, _, _, _, _⟩) rfl _ _ rfl rfl HS (fun _ hs => k1.ex hs.ex) HK.out 1 0 (by first | rfl | (simp; done) | omega) rfl (by decide) sc_string flt ?_))
        go_roundw
        case rel => exact ⟨S, .inr ⟨rfl, (by first | rfl | (have := HEQ.out; congr 1; omega)), (by first | rfl | (have := HEQ.out; congr 1; omega))⟩, (by have hq := HEQ.out; rw [ba_empty, HX.out]; congr 2; try omega), (HS.arr (by repeat (first | exact Arr.nil | (with_reducible exact take_all _) | (refine Arr.cons tk ?_) | (refine arr_skip ?_))))⟩
        case measure => simp [intOf]; omega
    · go_wp2
      go_ret2
      exact ⟨ret_strb HSS.out, HS.ex⟩

set_option maxRecDepth 100000 in
set_option maxHeartbeats 4000000 in
theorem writeMemory_seg (v : Value) (ps : Pg) (a : Int) (S : ByteArray) (w : World) (k1 : Holds w ps [v]) (hm : MemOk ps) (ha : i64ok a) (hs : Seg ps.length (a, (S.size : Int))) :
    Calls Try.prog 146 #[.agg #[v], .int .i64 a, .string S] w (RetMemB w (writeSeg ps a S) true) := by
  obtain ⟨AA, cap, rfl, z1, z2⟩ := k1.fl
  unfold maxLen at z2
  obtain ⟨g0, g1, g2, g3⟩ := hs
  simp only at g0 g1 g2 g3
  have hm1 := hm.1
  obtain ⟨gp, gq, gs⟩ := hm.page g0 g3

  generalize hpn : (a / 128).toNat = p at gp gq
  have hp : (p : Int) = a / 128 := by omega
  obtain ⟨r, hr⟩ : ∃ r : Nat, (r : Int) = a % 128 := ⟨(a % 128).toNat, by omega⟩
  have hrn : (a % 128).toNat = r := by omega
  have q1 : a.tdiv 128 = (p : Int) := by rw [Int.tdiv_eq_ediv_of_nonneg g0]; omega
  have q2 : a.tmod 128 = (r : Int) := by rw [Int.tmod_eq_emod_of_nonneg g0]; omega
  have q3 : a / 128 = (p : Int) := by omega
  have q4 : a % 128 = (r : Int) := by omega
  have g4 : (r : Int) + S.size ≤ 128 := by omega
  clear hr hp
  have hq3 : (r : Int) + S.size ≤ 128 := by omega
  have HW : Hid (memInB ps a S.size = true) := hid (memInB_iff.2 ⟨hm, by omega, by omega, by omega, by omega⟩)
  obtain ⟨PS, hPS⟩ : ∃ PS, PS = writeSeg ps a S := ⟨_, rfl⟩
  have HPS := hid hPS
  have hPS2 : PS = ps.set p (putB ps[p] r S) := by rw [hPS]; unfold writeSeg; simp only [gq, hpn, hrn]
  have hpl : PS.length = ps.length := by rw [hPS2, List.length_set]
  have HPL := hid hpl
  have HK := hid (List.getElem?_eq_getElem gp)
  have gp2 := gp
  generalize hx : ps[p] = x at *
  rw [gq] at gs
  clear hx hPS gq hpl
  have HX := hid hPS2
  clear hPS2
  have HS := St.start w
  go_enter Try.func146, Try.ntmps146
  go_wp2_with (first
        | (go_at_call 150; (with_reducible refine (memIn_any _ ps a S.size _ (k1.ex HS.ex) (by omega) ha (by unfold i64ok; omega)).mono ?_); rintro e w' ⟨rfl, hx⟩; rw [HW.out]; replace HS := HS.grow hx; clear hx)
        | (go_at_call 55; (with_reducible refine (copyMemory_any _ ps _ (k1.ex HS.ex) (by omega)).mono ?_); rintro e w' ⟨a1, c1, rfl, ho, hx⟩; replace HS := HS.own ho hx; clear ho hx)
        | ((with_reducible (show wpList _ _ _ (Oper.mk (some 3) (Op.box _ _) _ _ _ _ :: _) _ _)); refine wpList_box_st (o := ⟨some 3, .box _ _, _, _, _, _⟩) rfl _ _ rfl (v := .agg (List.toArray _)) rfl HS ?_; clear HS; intro w3 b3 hb3 HS; simp only [Value.cells] at HS)
        | ((with_reducible (show wpList _ _ _ (Oper.mk (some 6) (Op.alloc _) _ _ _ _ :: _) _ _)); refine wpList_alloc_st (o := ⟨some 6, .alloc _, _, _, _, _⟩) rfl _ rfl zc_impl_Memory HS ?_; clear HS; intro w6 b6 hb6 HS)
        | ((with_reducible (show wpList _ _ _ (Oper.mk (some 11) (Op.load _ _) _ _ _ _ :: _) _ _)); refine wpList_loadA_st (o := ⟨some 11, .load _ _, _, _, _, _⟩) rfl _ _ rfl rfl HS tk ag_impl_Memory lit rfl ?_)
        | ((with_reducible (show wpList _ _ _ (Oper.mk (some 8) (Op.alloc _) _ _ _ _ :: _) _ _)); refine wpList_alloc_st (o := ⟨some 8, .alloc _, _, _, _, _⟩) rfl _ rfl zc_impl_Memory HS ?_; clear HS; intro w8 b8 hb8 HS)
        | ((with_reducible (show wpList _ _ _ (Oper.mk none (Op.store _ (.tmp 8) _) _ _ _ _ :: _) _ _)); refine wpList_store_st (o := ⟨none, .store _ (.tmp 8) _, _, _, _, _⟩) rfl _ _ _ rfl rfl (v := .agg (List.toArray _)) rfl HS tk sz_impl_Memory vcs rfx rfx (by simp) ?_ rfl; clear HS; intro w1_3 hz1_3 HS; simp only [nicL, Value.cells, List.append_nil] at HS)
        | ((with_reducible (show wpList _ _ _ (Oper.mk (some 13) (Op.load _ _) _ _ _ _ :: _) _ _)); refine wpList_loadA_st (o := ⟨some 13, .load _ _, _, _, _, _⟩) rfl _ _ rfl rfl HS tk ag_impl_Memory lit rfl ?_))
  obtain ⟨b, off, _, hv, -, -⟩ := ownA.addr HS (show Take _ (ownA ps [_]) _ from tk) (by omega)
  simp only [Value.slice.injEq] at hv
  obtain ⟨rfl, -, rfl⟩ := hv
  go_loopw [1, 2] (fun i sv wr => ∃ s : Pg, ((s = ps ∧ i = .int .i64 a ∧ sv = .string S) ∨ (s = PS ∧ i = .int .i64 (a + S.size) ∧ sv = .string ⟨#[]⟩)) ∧ St w wr [rowA b3 [.slice AA ps.length cap] 27, rowA b6 [.slice none 0 0] 27, rowA b8 [.slice (some ⟨b, off, none⟩) ps.length c1] 27, ownA s [.slice (some ⟨b, off, none⟩) ps.length c1]]) (fun i _ _ => (a + S.size - intOf i).toNat)
  case atStart => exact ⟨ps, .inl ⟨rfl, rfl, rfl⟩, (HS.arr (by repeat (first | exact Arr.nil | (with_reducible exact take_all _) | (refine Arr.cons tk ?_) | (refine arr_skip ?_))))⟩
  case round =>
    clear HS
    obtain ⟨s, hcase, HS⟩ := hrel
    rcases hcase with ⟨rfl, rfl, rfl⟩ | ⟨rfl, rfl, rfl⟩
    · go_wp2_with (first
            | ((with_reducible (show wpList _ _ _ (Oper.mk (some 24) (Op.load _ _) _ _ _ _ :: _) _ _)); refine wpList_loadS_st (o := ⟨some 24, .load _ _, _, _, _, _⟩) rfl _ _ rfl rfl HS tk sc_Sstring rfx ?_)
            | ((with_reducible (show wpList _ _ _ (Oper.mk (some 28) (Op.load _ _) _ _ _ _ :: _) _ _)); refine wpList_loadHF (o := ⟨some 28, .load _ _, _, _, _, _⟩) rfl _ _ rfl rfl HS (fun _ hs => hs.holds tk) HK.out 1 0 (by first | rfl | (simp; done) | omega) rfl (by decide) sc_string flt ?_)
            | ((with_reducible (show wpList _ _ _ (Oper.mk (some 29) (Op.convert _ _ _) _ _ _ _ :: _) _ _)); refine wpList_bytes_st (o := ⟨some 29, .convert _ _ _, _, _, _, _⟩) rfl _ _ _ rfl _ Try.underlying9 Try.underlying22 Try.underlying5 rfl HS ?_; clear HS; intro w29 b29 C29 hb29 hC29 HS)
            | ((with_reducible (show wpList _ _ _ (Oper.mk (some 33) (Op.slice _ _ _ _ _) _ _ _ _ :: _) _ _)); refine wpList_pure (o := ⟨some 33, .slice _ _ _ _ _, _, _, _, _⟩) rfl (pure_cutLoA (l := r) _ _ _ rfl _ Try.underlying22 in_uint8 rfl rfl (by omega) (by omega)) ?_)
            | ((with_reducible (show wpList _ _ _ (Oper.mk (some 35) (Op.call { callee := .builtin .copy, args := _, argTypes := _ }) _ _ _ _ :: _) _ _)); refine wpList_copyS_st (o := ⟨some 35, .call { callee := .builtin .copy, args := _, argTypes := _ }, _, _, _, _⟩) rfl _ _ _ _ rfl _ Try.underlying22 in_uint8 rfl rfl (by omega) HS tk (by omega) ?_; clear HS; intro w35 HS)
            | ((with_reducible (show wpList _ _ _ (Oper.mk (some 37) (Op.load _ _) _ _ _ _ :: _) _ _)); refine wpList_loadS_st (o := ⟨some 37, .load _ _, _, _, _, _⟩) rfl _ _ rfl rfl HS tk sc_Sstring rfx ?_)
            | ((with_reducible (show wpList _ _ _ (Oper.mk (some 41) (Op.convert _ _ _) _ _ _ _ :: _) _ _)); refine wpList_back_st (o := ⟨some 41, .convert _ _ _, _, _, _, _⟩) rfl _ _ _ rfl _ Try.underlying22 Try.underlying5 Try.underlying9 rfl HS tk (by rw [putB_size (by omega)]; omega) ?_)
            | ((with_reducible (show wpList _ _ _ (Oper.mk none (Op.store _ (.tmp 42) _) _ _ _ _ :: _) _ _)); refine wpList_storeF_st (o := ⟨none, .store _ (.tmp 42) _, _, _, _, _⟩) rfl _ _ _ rfl rfl rfl HS tk sz_string rfl gp2 (v := putB x r S) (by rw [show Flat.ok (putB x r S) = ((putB x r S).size ≤ maxLen) from rfl, putB_size (by omega)]; unfold maxLen; omega) rfl rfl ?_ rfl; clear HS; intro w7_7 hz7_7 HS))
      go_roundw
      case rel => exact ⟨PS, .inr ⟨rfl, rfl, (by first | rfl | rw [ba_full])⟩, by rw [HX.out]; exact (HS.arr (by repeat (first | exact Arr.nil | (with_reducible exact take_all _) | (refine Arr.cons tk ?_) | (refine arr_skip ?_))))⟩
      case measure => simp [intOf]; omega
    · go_wp2_with (first
            | ((with_reducible (show wpList _ _ _ (Oper.mk none (Op.store _ (.tmp 6) _) _ _ _ _ :: _) _ _)); refine wpList_store_st (o := ⟨none, .store _ (.tmp 6) _, _, _, _, _⟩) rfl _ _ _ rfl rfl (v := .agg (List.toArray _)) rfl HS tk sz_impl_Memory vcs rfx rfx (by simp) ?_ rfl; clear HS; intro w3_1 hz3_1 HS; simp only [nicL, Value.cells, List.append_nil] at HS)
            | ((with_reducible (show wpList _ _ _ (Oper.mk (some 49) (Op.load _ _) _ _ _ _ :: _) _ _)); refine wpList_loadA_st (o := ⟨some 49, .load _ _, _, _, _, _⟩) rfl _ _ rfl rfl HS tk ag_impl_Memory lit rfl ?_))
      refine bodyPost_rets rfx (RVs.cell rfx HS tk ag_impl_Memory rfx (RVs.tmp rfx RVs.nil)) (by simp) rfx ?_
      rw [← HPS.out]
      exact retMemB HS tk

def putBF (s : ByteArray) (i : Int) (p : ByteArray) : ByteArray := if withinB s i p.size then putB s i.toNat p else s
theorem putBF_in {s p : ByteArray} {i : Nat} (h : i + p.size ≤ s.size) : putBF s i p = putB s i p := by
  unfold putBF
  rw [if_pos (by simp [withinB]; omega)]; rfl

set_option maxRecDepth 100000 in
set_option maxHeartbeats 4000000 in
theorem putBytesS_any (s : ByteArray) (i : Int) (p : ByteArray) (w : World) (hs : s.size ≤ 9223372036854775807) (hp : p.size ≤ 9223372036854775807) (hi : -9223372036854775808 ≤ i ∧ i ≤ 9223372036854775807) :
    Calls Try.prog 144 #[.string s, .int .i64 i, .string p] w fun e w' => e = .returned (.string (putBF s i p)) ∧ Ex w w' := by
  cases h : withinB s i p.size
  case false =>
    have HW := hid h
    have HM : Hid (putBF s i p = s) := hid (by unfold putBF; rw [h]; rfl)
    clear h
    have HS := St.start w
    go_enter Try.func144, Try.ntmps144
    go_wp2_with (first
          | (go_at_call 153; (with_reducible refine (within_v s hs _ _ hi (by omega) HW.out _).mono ?_); rintro e w' ⟨rfl, rfl⟩))
    go_ret
    exact ⟨ret_str HM.out.symm, HS.ex⟩
  case true =>
    have HW := hid h
    simp only [withinB, Bool.and_eq_true, decide_eq_true_eq] at h
    obtain ⟨⟨h1, h2⟩, h3⟩ := h
    obtain ⟨k, rfl⟩ := Int.eq_ofNat_of_zero_le h1
    have HM : Hid (putBF s k p = putB s k p) := hid (putBF_in (by omega))
    have e1 : ((k : Int) + (p.size : Int)).toNat = k + p.size := by omega
    have e2 : IntKind.i64.wrap ((k : Int) + (p.size : Int)) = (k : Int) + (p.size : Int) := IntWalk.i64_in _ (by omega)
    have h4 : (k : Int) + (p.size : Int) ≤ s.size := by omega
    have h5 : ¬ (9223372036854775807 < min k s.size + p.size + (s.size - (k + p.size))) := by omega
    have HS := St.start w
    go_enter Try.func144, Try.ntmps144
    go_wp2_with (first
          | (go_at_call 153; (with_reducible refine (within_v s hs _ _ hi (by omega) HW.out _).mono ?_); rintro e w' ⟨rfl, rfl⟩))
    refine wp_region_plan_st HS (.early 0 (.early 1 (.early 2 (.early 3 (.early 4 (.early 5 (.early 6 (.forced 7 1 (.forced 8 1 (.forced 9 1 (.forced 10 1 (.forced 11 2 (.forced 12 2 .done))))))))))))) (by kernel_rfl) (by as_aux_lemma => kernel_rfl) ?_
    intro hne
    replace HS := HS.drew
    try go_simp
    repeat' (first
      | (with_reducible refine wpPlan_forced ?_)
      | ((with_reducible (first | (show wpPlan _ _ _ _ (.early 0 _) _ _) | (show wpPlan _ _ _ _ (.early 1 _) _ _) | (show wpPlan _ _ _ _ (.early 2 _) _ _) | (show wpPlan _ _ _ _ (.early 3 _) _ _) | (show wpPlan _ _ _ _ (.early 4 _) _ _) | (show wpPlan _ _ _ _ (.early 5 _) _ _) | (show wpPlan _ _ _ _ (.early 6 _) _ _))); (first | (refine wpPlan_skipE rfl rfl ?_; (try go_simp)) | (refine wpPlan_early rfl rfl ?_; intro K hK; (first | go_big_quiet_op); (first | go_big_quiet_on | (refine ⟨_, fun _ => rfl, ?_⟩; go_big_quiet_on)))))
      | ((with_reducible (first | (show wpOne _ _ _ _ 7 1 _ _ _) | (show wpOne _ _ _ _ 8 1 _ _ _) | (show wpOne _ _ _ _ 9 1 _ _ _) | (show wpOne _ _ _ _ 10 1 _ _ _))); (first | (refine wpOne_skip rfl rfl ?_; (try go_simp)) | (refine wpOne_1 rfl rfl ?_; intro K hK; go_simp; refine hK _ _ ?_ ?_; (focus (exact stw HS)); clear hK K)))
      | ((with_reducible (first | (show wpOne _ _ _ _ 11 2 _ _ _) | (show wpOne _ _ _ _ 12 2 _ _ _))); (first | (refine wpOne_skip rfl rfl ?_; (try go_simp)) | (refine wpOne_2 rfl rfl ?_; intro K hK; go_simp; refine hK _ _ ?_; clear hK K)))
      | (with_reducible refine wpPlan_done ?_))
    go_wp2
    go_ret
    exact ⟨ret_str (by rw [HM.out]; rfl), HS.ex⟩

theorem putBF_size (s : ByteArray) (i : Int) (p : ByteArray) : (putBF s i p).size = s.size := by
  unfold putBF
  split
  · rename_i h
    simp only [withinB, Bool.and_eq_true, decide_eq_true_eq] at h
    exact putB_size (by omega)
  · rfl

set_option maxRecDepth 100000 in
set_option maxHeartbeats 4000000 in
theorem writeMemoryS_seg (v : Value) (ps : Pg) (a : Int) (S : ByteArray) (w : World) (k1 : Holds w ps [v]) (hm : MemOk ps) (ha : i64ok a) (hs : Seg ps.length (a, (S.size : Int))) :
    Calls Try.prog 111 #[.agg #[v], .int .i64 a, .string S] w (RetMemB w (writeSeg ps a S) true) := by
  obtain ⟨AA, cap, rfl, z1, z2⟩ := k1.fl
  unfold maxLen at z2
  obtain ⟨g0, g1, g2, g3⟩ := hs
  simp only at g0 g1 g2 g3
  have hm1 := hm.1
  obtain ⟨gp, gq, gs⟩ := hm.page g0 g3

  generalize hpn : (a / 128).toNat = p at gp gq
  have hp : (p : Int) = a / 128 := by omega
  obtain ⟨r, hr⟩ : ∃ r : Nat, (r : Int) = a % 128 := ⟨(a % 128).toNat, by omega⟩
  have hrn : (a % 128).toNat = r := by omega
  have q1 : a.tdiv 128 = (p : Int) := by rw [Int.tdiv_eq_ediv_of_nonneg g0]; omega
  have q2 : a.tmod 128 = (r : Int) := by rw [Int.tmod_eq_emod_of_nonneg g0]; omega
  have q3 : a / 128 = (p : Int) := by omega
  have q4 : a % 128 = (r : Int) := by omega
  have g4 : (r : Int) + S.size ≤ 128 := by omega
  clear hr hp
  have hq3 : (r : Int) + S.size ≤ 128 := by omega
  have HW : Hid (memInB ps a S.size = true) := hid (memInB_iff.2 ⟨hm, by omega, by omega, by omega, by omega⟩)
  obtain ⟨PS, hPS⟩ : ∃ PS, PS = writeSeg ps a S := ⟨_, rfl⟩
  have HPS := hid hPS
  have hPS2 : PS = ps.set p (putB ps[p] r S) := by rw [hPS]; unfold writeSeg; simp only [gq, hpn, hrn]
  have hpl : PS.length = ps.length := by rw [hPS2, List.length_set]
  have HPL := hid hpl
  have HK := hid (List.getElem?_eq_getElem gp)
  have gp2 := gp
  generalize hx : ps[p] = x at *
  rw [gq] at gs
  clear hx hPS gq hpl
  have HX := hid hPS2
  clear hPS2
  have HS := St.start w
  go_enter Try.func111, Try.ntmps111
  go_wp2_with (first
        | (go_at_call 143; (with_reducible refine (memInS_any _ ps a S.size _ (k1.ex HS.ex) (by omega) ha (by unfold i64ok; omega)).mono ?_); rintro e w' ⟨rfl, hx⟩; rw [HW.out]; replace HS := HS.grow hx; clear hx)
        | (go_at_call 74; (with_reducible refine (l16CopyS_any _ ps _ (k1.ex HS.ex) (by omega)).mono ?_); rintro e w' ⟨a1, c1, rfl, ho, hx⟩; replace HS := HS.own ho hx; clear ho hx)
        | ((with_reducible (show wpList _ _ _ (Oper.mk (some 3) (Op.box _ _) _ _ _ _ :: _) _ _)); refine wpList_box_st (o := ⟨some 3, .box _ _, _, _, _, _⟩) rfl _ _ rfl (v := .agg (List.toArray _)) rfl HS ?_; clear HS; intro w3 b3 hb3 HS; simp only [Value.cells] at HS)
        | ((with_reducible (show wpList _ _ _ (Oper.mk (some 6) (Op.alloc _) _ _ _ _ :: _) _ _)); refine wpList_alloc_st (o := ⟨some 6, .alloc _, _, _, _, _⟩) rfl _ rfl zc_impl_Memory HS ?_; clear HS; intro w6 b6 hb6 HS)
        | ((with_reducible (show wpList _ _ _ (Oper.mk (some 11) (Op.load _ _) _ _ _ _ :: _) _ _)); refine wpList_loadA_st (o := ⟨some 11, .load _ _, _, _, _, _⟩) rfl _ _ rfl rfl HS tk ag_impl_Memory lit rfl ?_)
        | ((with_reducible (show wpList _ _ _ (Oper.mk (some 8) (Op.alloc _) _ _ _ _ :: _) _ _)); refine wpList_alloc_st (o := ⟨some 8, .alloc _, _, _, _, _⟩) rfl _ rfl zc_impl_Memory HS ?_; clear HS; intro w8 b8 hb8 HS)
        | ((with_reducible (show wpList _ _ _ (Oper.mk none (Op.store _ (.tmp 8) _) _ _ _ _ :: _) _ _)); refine wpList_store_st (o := ⟨none, .store _ (.tmp 8) _, _, _, _, _⟩) rfl _ _ _ rfl rfl (v := .agg (List.toArray _)) rfl HS tk sz_impl_Memory vcs rfx rfx (by simp) ?_ rfl; clear HS; intro w1_3 hz1_3 HS; simp only [nicL, Value.cells, List.append_nil] at HS)
        | ((with_reducible (show wpList _ _ _ (Oper.mk (some 13) (Op.load _ _) _ _ _ _ :: _) _ _)); refine wpList_loadA_st (o := ⟨some 13, .load _ _, _, _, _, _⟩) rfl _ _ rfl rfl HS tk ag_impl_Memory lit rfl ?_))
  obtain ⟨b, off, _, hv, -, -⟩ := ownA.addr HS (show Take _ (ownA ps [_]) _ from tk) (by omega)
  simp only [Value.slice.injEq] at hv
  obtain ⟨rfl, -, rfl⟩ := hv
  have HE1 : Hid (∀ n, n = S.size → putBF x (r : Int) (S.extract 0 n) = putB x r S) := hid (by rintro n rfl; rw [ba_all]; exact putBF_in (by omega))
  have HE0 : Hid (putBF x (r : Int) S = putB x r S) := hid (putBF_in (by omega))
  have HE3 : Hid (S.extract S.size S.size = ⟨#[]⟩) := hid (ba_full S)
  have HE2 : Hid (∀ n, n = S.size → S.extract n S.size = ⟨#[]⟩) := hid (by rintro n rfl; exact ba_full S)
  go_loopw [1, 2] (fun i sv wr => ∃ s : Pg, ((s = ps ∧ i = .int .i64 a ∧ sv = .string S) ∨ (s = PS ∧ i = .int .i64 (a + S.size) ∧ sv = .string ⟨#[]⟩)) ∧ St w wr [rowA b3 [.slice AA ps.length cap] 27, rowA b6 [.slice none 0 0] 27, rowA b8 [.slice (some ⟨b, off, none⟩) ps.length c1] 27, ownA s [.slice (some ⟨b, off, none⟩) ps.length c1]]) (fun i _ _ => (a + S.size - intOf i).toNat)
  case atStart => exact ⟨ps, .inl ⟨rfl, rfl, rfl⟩, (HS.arr (by repeat (first | exact Arr.nil | (with_reducible exact take_all _) | (refine Arr.cons tk ?_) | (refine arr_skip ?_))))⟩
  case round =>
    clear HS
    obtain ⟨s, hcase, HS⟩ := hrel
    rcases hcase with ⟨hs1, rfl, rfl⟩ | ⟨rfl, rfl, rfl⟩
    · rw [hs1] at HS
      clear hs1
      rcases (by omega : (S.size : Int) < 128 - r ∨ (S.size : Int) = 128 - r) with hlt | heq
      · have HEQ : Hid True := trivial
        go_wp2
        refine wp_region_plan_st HS (.early 0 (.early 1 (.early 2 (.early 3 (.early 4 (.early 5 (.early 6 (.early 7 (.early 8 (.early 9 (.early 10 (.early 11 (.forced 12 1 (.forced 13 1 (.forced 14 1 (.forced 15 2 (.forced 16 2 .done))))))))))))))))) (by kernel_rfl) (by as_aux_lemma => kernel_rfl) ?_
        intro hne
        replace HS := HS.drew
        try go_simp
        repeat' (first
          | (with_reducible refine wpPlan_forced ?_)
          | ((with_reducible (first | (show wpPlan _ _ _ _ (.early 0 _) _ _) | (show wpPlan _ _ _ _ (.early 2 _) _ _) | (show wpPlan _ _ _ _ (.early 3 _) _ _) | (show wpPlan _ _ _ _ (.early 4 _) _ _) | (show wpPlan _ _ _ _ (.early 6 _) _ _) | (show wpPlan _ _ _ _ (.early 7 _) _ _) | (show wpPlan _ _ _ _ (.early 8 _) _ _) | (show wpPlan _ _ _ _ (.early 10 _) _ _) | (show wpPlan _ _ _ _ (.early 11 _) _ _))); (first | (refine wpPlan_skipE rfl rfl ?_; (try go_simp)) | (refine wpPlan_early rfl rfl ?_; intro K hK; (first | go_big_quiet_op); (first | go_big_quiet_on | (refine ⟨_, fun _ => rfl, ?_⟩; go_big_quiet_on)))))
          | ((with_reducible (first | (show wpPlan _ _ _ _ (.early 1 _) _ _) | (show wpPlan _ _ _ _ (.early 5 _) _ _))); (first | (refine wpPlan_skipE rfl rfl ?_; (try go_simp)) | (refine wpPlan_early rfl rfl ?_; intro K hK; (first | ((refine quiet_loadS_st  _ _ rfl rfl tk sc_Sstring rfx ?_); (try go_simp)) | go_big_quiet_op); (first | go_big_quiet_on | (refine ⟨_, fun _ => rfl, ?_⟩; go_big_quiet_on)))))
          | ((with_reducible ((show wpPlan _ _ _ _ (.early 9 _) _ _))); (first | (refine wpPlan_skipE rfl rfl ?_; (try go_simp)) | (refine wpPlan_early rfl rfl ?_; intro K hK; (first | ((refine quiet_loadHF  _ _ rfl rfl (fun _ hs => hs.holds tk) HK.out 1 0 (by first | rfl | (simp; done) | omega) rfl (by decide) sc_string flt ?_); (try go_simp)) | go_big_quiet_op); (first | go_big_quiet_on | (refine ⟨_, fun _ => rfl, ?_⟩; go_big_quiet_on)))))
          | ((with_reducible (first | (show wpOne _ _ _ _ 12 1 _ _ _) | (show wpOne _ _ _ _ 13 1 _ _ _))); (first | (refine wpOne_skip rfl rfl ?_; (try go_simp)) | (refine wpOne_1 rfl rfl ?_; intro K hK; go_simp; refine hK _ _ ?_ ?_; (focus (exact stw HS)); clear hK K)))
          | ((with_reducible ((show wpOne _ _ _ _ 14 1 _ _ _))); (first | (refine wpOne_skip rfl rfl ?_; (try go_simp)) | (refine wpOne_1 rfl rfl ?_; intro K hK; go_simp; (first | (go_at_call 144; (with_reducible refine (putBytesS_any x r _ _ (by omega) (by first | omega | (rw [ByteArray.size_extract]; omega)) (by omega)).mono ?_); rintro e w' ⟨rfl, hx⟩; replace HS := HS.grow hx; clear hx)); (try go_simp); refine hK _ _ ?_ ?_; (focus (exact stw HS)); clear hK K)))
          | ((with_reducible ((show wpOne _ _ _ _ 15 2 _ _ _))); (first | (refine wpOne_skip rfl rfl ?_; (try go_simp)) | (refine wpOne_2 rfl rfl ?_; intro K hK; go_simp; refine hK _ _ ?_; clear hK K)))
          | ((with_reducible ((show wpOne _ _ _ _ 16 2 _ _ _))); (first | (refine wpOne_skip rfl rfl ?_; (try go_simp)) | (refine wpOne_2 rfl rfl ?_; intro K hK; (first | (refine wp_storeF_st  _ _ _ rfl rfl rfl HS tk sz_string rfl gp2 (v := _) (show ByteArray.size _ ≤ maxLen from by rw [putBF_size]; unfold maxLen; omega) rfl rfl ?_ rfl; clear HS; intro w7_16 hz7_16 HS)); (try go_simp); refine hK _ _ ?_; clear hK K)))
          | (with_reducible refine wpPlan_done ?_))
        go_wp2
        go_roundw
        case rel =>
          refine ⟨_, .inr ⟨?_, ?_, ?_⟩, (HS.arr (by repeat (first | exact Arr.nil | (with_reducible exact take_all _) | (refine Arr.cons tk ?_) | (refine arr_skip ?_))))⟩
          · rw [HX.out]; congr 1 <;> first | (with_reducible exact HE0.out) | (with_reducible refine HE1.out _ ?_; (try (have := HEQ.out; omega)))
          · have := HEQ.out; first | rfl | (congr 1; omega)
          · congr 1 <;> first | (with_reducible exact HE3.out) | (with_reducible refine HE2.out _ ?_; (try (have := HEQ.out; omega))) | rfl
        case measure => simp [intOf]; omega
      · have e0 : ¬ ((S.size : Int) < 128 - r) := by omega
        have HEQ := hid heq
        clear heq
        go_wp2
        refine wp_region_plan_st HS (.early 0 (.early 1 (.early 2 (.early 3 (.early 4 (.early 5 (.early 6 (.early 7 (.early 8 (.early 9 (.early 10 (.early 11 (.forced 12 1 (.forced 13 1 (.forced 14 1 (.forced 15 2 (.forced 16 2 .done))))))))))))))))) (by kernel_rfl) (by as_aux_lemma => kernel_rfl) ?_
        intro hne
        replace HS := HS.drew
        try go_simp
        repeat' (first
          | (with_reducible refine wpPlan_forced ?_)
          | ((with_reducible (first | (show wpPlan _ _ _ _ (.early 0 _) _ _) | (show wpPlan _ _ _ _ (.early 2 _) _ _) | (show wpPlan _ _ _ _ (.early 3 _) _ _) | (show wpPlan _ _ _ _ (.early 4 _) _ _) | (show wpPlan _ _ _ _ (.early 6 _) _ _) | (show wpPlan _ _ _ _ (.early 7 _) _ _) | (show wpPlan _ _ _ _ (.early 8 _) _ _) | (show wpPlan _ _ _ _ (.early 10 _) _ _) | (show wpPlan _ _ _ _ (.early 11 _) _ _))); (first | (refine wpPlan_skipE rfl rfl ?_; (try go_simp)) | (refine wpPlan_early rfl rfl ?_; intro K hK; (first | go_big_quiet_op); (first | go_big_quiet_on | (refine ⟨_, fun _ => rfl, ?_⟩; go_big_quiet_on)))))
          | ((with_reducible (first | (show wpPlan _ _ _ _ (.early 1 _) _ _) | (show wpPlan _ _ _ _ (.early 5 _) _ _))); (first | (refine wpPlan_skipE rfl rfl ?_; (try go_simp)) | (refine wpPlan_early rfl rfl ?_; intro K hK; (first | ((refine quiet_loadS_st  _ _ rfl rfl tk sc_Sstring rfx ?_); (try go_simp)) | go_big_quiet_op); (first | go_big_quiet_on | (refine ⟨_, fun _ => rfl, ?_⟩; go_big_quiet_on)))))
          | ((with_reducible ((show wpPlan _ _ _ _ (.early 9 _) _ _))); (first | (refine wpPlan_skipE rfl rfl ?_; (try go_simp)) | (refine wpPlan_early rfl rfl ?_; intro K hK; (first | ((refine quiet_loadHF  _ _ rfl rfl (fun _ hs => hs.holds tk) HK.out 1 0 (by first | rfl | (simp; done) | omega) rfl (by decide) sc_string flt ?_); (try go_simp)) | go_big_quiet_op); (first | go_big_quiet_on | (refine ⟨_, fun _ => rfl, ?_⟩; go_big_quiet_on)))))
          | ((with_reducible (first | (show wpOne _ _ _ _ 12 1 _ _ _) | (show wpOne _ _ _ _ 13 1 _ _ _))); (first | (refine wpOne_skip rfl rfl ?_; (try go_simp)) | (refine wpOne_1 rfl rfl ?_; intro K hK; go_simp; refine hK _ _ ?_ ?_; (focus (exact stw HS)); clear hK K)))
          | ((with_reducible ((show wpOne _ _ _ _ 14 1 _ _ _))); (first | (refine wpOne_skip rfl rfl ?_; (try go_simp)) | (refine wpOne_1 rfl rfl ?_; intro K hK; go_simp; (first | (go_at_call 144; (with_reducible refine (putBytesS_any x r _ _ (by omega) (by first | omega | (rw [ByteArray.size_extract]; omega)) (by omega)).mono ?_); rintro e w' ⟨rfl, hx⟩; replace HS := HS.grow hx; clear hx)); (try go_simp); refine hK _ _ ?_ ?_; (focus (exact stw HS)); clear hK K)))
          | ((with_reducible ((show wpOne _ _ _ _ 15 2 _ _ _))); (first | (refine wpOne_skip rfl rfl ?_; (try go_simp)) | (refine wpOne_2 rfl rfl ?_; intro K hK; go_simp; refine hK _ _ ?_; clear hK K)))
          | ((with_reducible ((show wpOne _ _ _ _ 16 2 _ _ _))); (first | (refine wpOne_skip rfl rfl ?_; (try go_simp)) | (refine wpOne_2 rfl rfl ?_; intro K hK; (first | (refine wp_storeF_st  _ _ _ rfl rfl rfl HS tk sz_string rfl gp2 (v := _) (show ByteArray.size _ ≤ maxLen from by rw [putBF_size]; unfold maxLen; omega) rfl rfl ?_ rfl; clear HS; intro w7_16 hz7_16 HS)); (try go_simp); refine hK _ _ ?_; clear hK K)))
          | (with_reducible refine wpPlan_done ?_))
        go_wp2
        go_roundw
        case rel =>
          refine ⟨_, .inr ⟨?_, ?_, ?_⟩, (HS.arr (by repeat (first | exact Arr.nil | (with_reducible exact take_all _) | (refine Arr.cons tk ?_) | (refine arr_skip ?_))))⟩
          · rw [HX.out]; congr 1 <;> first | (with_reducible exact HE0.out) | (with_reducible refine HE1.out _ ?_; (try (have := HEQ.out; omega)))
          · have := HEQ.out; first | rfl | (congr 1; omega)
          · congr 1 <;> first | (with_reducible exact HE3.out) | (with_reducible refine HE2.out _ ?_; (try (have := HEQ.out; omega))) | rfl
        case measure => simp [intOf]; omega
    · go_wp2_with (first
            | ((with_reducible (show wpList _ _ _ (Oper.mk none (Op.store _ (.tmp 6) _) _ _ _ _ :: _) _ _)); refine wpList_store_st (o := ⟨none, .store _ (.tmp 6) _, _, _, _, _⟩) rfl _ _ _ rfl rfl (v := .agg (List.toArray _)) rfl HS tk sz_impl_Memory vcs rfx rfx (by simp) ?_ rfl; clear HS; intro w3_1 hz3_1 HS; simp only [nicL, Value.cells, List.append_nil] at HS)
            | ((with_reducible (show wpList _ _ _ (Oper.mk (some 52) (Op.load _ _) _ _ _ _ :: _) _ _)); refine wpList_loadA_st (o := ⟨some 52, .load _ _, _, _, _, _⟩) rfl _ _ rfl rfl HS tk ag_impl_Memory lit rfl ?_))
      refine bodyPost_rets rfx (RVs.cell rfx HS tk ag_impl_Memory rfx (RVs.tmp rfx RVs.nil)) (by simp) rfx ?_
      rw [← HPS.out]
      exact retMemB HS tk

end Go.Proofs.Ytelkplponnfkpaa
