/- Draws of texts; a memory of zeros; a page mapped. -/
import Derived.Test.YtelkplponnfkpaaRows
import Derived.Test.YtelkplponnfkpaaMemG
import Derived.Test.YtelkplponnfkpaaCurS
import Derived.Test.YtelkplponnfkpaaLit
import Derived.Test.YtelkplponnfkpaaFl
import Derived.Test.YtelkplponnfkpaaMLaw
import Derived.Test.YtelkplponnfkpaaTk
namespace Go.Proofs.Ytelkplponnfkpaa
open Go.RowKit
set_option linter.unusedVariables false
set_option linter.unusedSimpArgs false

theorem l01Byte_st {w0 w : World} {Js : List Asn} {B : Nat} {v : Value} {code : List UInt8} (HS : St w0 w (curA 148 B v code.length :: Js)) (hc : Holds w0 code [v]) : Calls Try.prog 145 #[.pointer (some ⟨B, 0, none⟩)] w fun e w' => ∃ r : Int, 0 ≤ r ∧ r ≤ 255 ∧ e = .returned (.int .i64 r) ∧ St w0 w' (curA 148 B v code.length :: Js) :=
  (l01Byte_any B v code w0 w (HS.cu .head hc)).mono fun _ _ h => HS.drawn .head h

set_option maxRecDepth 100000 in
set_option maxHeartbeats 4000000 in
theorem l01Once_st {w0 w : World} {Js : List Asn} {B : Nat} {v : Value} {code : List UInt8} (HS : St w0 w (curA 148 B v code.length :: Js)) (hc : Holds w0 code [v]) (n : Int) (h0 : 1 ≤ n) (h1 : n ≤ 1000000000) :
    Calls Try.prog 110 #[.pointer (some ⟨B, 0, none⟩), .int .i64 n] w fun e w' => ∃ q : Bool, e = .returned (.bool q) ∧ St w0 w' (curA 148 B v code.length :: Js) := by
  go_enter Try.func110, Try.ntmps110
  go_wp2_with (first
        | (go_at_call 112; (with_reducible refine (l01Below_st HS tk hc n (by omega) (by omega)).mono ?_); rintro e w' ⟨r, rl, rh, rfl, HS1⟩; clear HS; have HS := HS1; clear HS1))
  go_ret
  exact ⟨_, rfl, HS⟩

theorem byteCells_one {r : Int} (h0 : 0 ≤ r) (h1 : r ≤ 255) : [Value.int .u8 r] = byteCells ⟨#[UInt8.ofNat r.toNat]⟩ := by
  simp [byteCells]; omega
theorem byteCells_nil' : ([] : List Value) = byteCells ⟨#[]⟩ := rfl

set_option maxRecDepth 100000 in
set_option maxHeartbeats 4000000 in
theorem l01Text_st {w0 w : World} {Js : List Asn} {B : Nat} {v : Value} {code : List UInt8} (HS : St w0 w (curA 148 B v code.length :: Js)) (hc : Holds w0 code [v]) {n : Int} (h0 : 0 ≤ n) (h1 : n ≤ 5000) :
    Calls Try.prog 113 #[.pointer (some ⟨B, 0, none⟩), .int .i64 n] w fun e w' => ∃ s : ByteArray, s.size = n.toNat ∧ e = .returned (.string s) ∧ St w0 w' (curA 148 B v code.length :: Js) := by
  obtain ⟨n, rfl⟩ := Int.eq_ofNat_of_zero_le h0
  go_enter Try.func113, Try.ntmps113
  go_wp2_with (first
        | ((with_reducible (show wpList _ _ _ (Oper.mk (some 9) (Op.buildSlice _ _ _) _ _ _ _ :: _) _ _)); refine wpList_bslice0_st (o := ⟨some 9, .buildSlice _ _ _, _, _, _, _⟩) rfl _ rfl _ Try.underlying22 in_uint8 HS ?_; clear HS; intro w9 b9 hb9 HS; replace HS := HS.slotMade 1 tk)
        | ((with_reducible (show wpList _ _ _ (Oper.mk (some 19) (Op.buildSlice _ _ _) _ _ _ _ :: _) _ _)); refine wpList_bslice1_st (o := ⟨some 19, .buildSlice _ _ _, _, _, _, _⟩) rfl _ _ rfl _ Try.underlying22 in_uint8 (by decide) (by decide) (x := .int .u8 _) rfl vcs rfx HS ?_; clear HS; intro w19 b19 hb19 HS)
        | ((with_reducible (show wpList _ _ _ (Oper.mk (some 19) (Op.buildSlice _ _ _) _ _ _ _ :: _) _ _)); refine wpList_bslice1_st (o := ⟨some 19, .buildSlice _ _ _, _, _, _, _⟩) rfl _ _ rfl _ Try.underlying22 in_uint8 (by decide) (by decide) (x := _) rfl vcs rfx HS ?_; clear HS; intro w19 b19 hb19 HS)
        | ((with_reducible (show wpList _ _ _ (Oper.mk (some 20) (Op.call { callee := .builtin .append, args := _, argTypes := _ }) _ _ _ _ :: _) _ _)); refine wpList_appN_st (N := k + 1) (o := ⟨some 20, .call { callee := .builtin .append, args := _, argTypes := _ }, _, _, _, _⟩) rfl _ _ _ _ rfl _ Try.underlying22 in_uint8 rfl HS tk rfl (Src.row HS tk Try.underlying22 rfx rfx) (by omega) mxl (by omega) ?_; clear HS; intro a20 c20 w20 hb20 HS)
        | ((with_reducible (show wpList _ _ _ (Oper.mk (some 22) (Op.convert _ _ _) _ _ _ _ :: _) _ _)); refine wpList_backS_st (o := ⟨some 22, .convert _ _ _, _, _, _, _⟩) rfl _ _ _ rfl _ Try.underlying22 Try.underlying5 Try.underlying9 rfl HS tk ?_))
  rw [byteCells_nil'] at HS
  go_loopw [5, 6] (fun ov i wr => ∃ (k : Nat) (s : ByteArray) (A1 : Option Addr) (c1 : Nat), k ≤ n ∧ s.size = k ∧ i = .int .i64 (k : Int) ∧ ov = .slice A1 k c1 ∧ St w0 wr (slotA 5 1 (.slice A1 k c1) k (byteCells s) :: curA 148 B v code.length :: Js)) (fun _ i _ => n - (intOf i).toNat)
  case atStart => exact ⟨0, ⟨#[]⟩, _, _, Nat.zero_le _, rfl, rfl, rfl, (HS.arr (by repeat (first | exact Arr.nil | (with_reducible exact take_all _) | (refine Arr.cons tk ?_) | (refine arr_skip ?_))))⟩
  case round =>
    clear HS
    obtain ⟨k, s, A1, c1, hkn, hsz, rfl, rfl, HS⟩ := hrel
    by_cases hlt : k < n
    case pos =>
      go_wp2_with (first
            | (go_at_call 145; (with_reducible refine (l01Byte_st (HS.take tk) hc).mono ?_); rintro e w' ⟨r, rl, rh, rfl, HS1⟩; clear HS; have HS := HS1; clear HS1; have hr8 : r % 256 = r := (by omega))
            | ((with_reducible (show wpList _ _ _ (Oper.mk (some 9) (Op.buildSlice _ _ _) _ _ _ _ :: _) _ _)); refine wpList_bslice0_st (o := ⟨some 9, .buildSlice _ _ _, _, _, _, _⟩) rfl _ rfl _ Try.underlying22 in_uint8 HS ?_; clear HS; intro w9 b9 hb9 HS; replace HS := HS.slotMade 1 tk)
            | ((with_reducible (show wpList _ _ _ (Oper.mk (some 19) (Op.buildSlice _ _ _) _ _ _ _ :: _) _ _)); refine wpList_bslice1_st (o := ⟨some 19, .buildSlice _ _ _, _, _, _, _⟩) rfl _ _ rfl _ Try.underlying22 in_uint8 (by decide) (by decide) (x := .int .u8 _) rfl vcs rfx HS ?_; clear HS; intro w19 b19 hb19 HS)
            | ((with_reducible (show wpList _ _ _ (Oper.mk (some 19) (Op.buildSlice _ _ _) _ _ _ _ :: _) _ _)); refine wpList_bslice1_st (o := ⟨some 19, .buildSlice _ _ _, _, _, _, _⟩) rfl _ _ rfl _ Try.underlying22 in_uint8 (by decide) (by decide) (x := _) rfl vcs rfx HS ?_; clear HS; intro w19 b19 hb19 HS)
            | ((with_reducible (show wpList _ _ _ (Oper.mk (some 20) (Op.call { callee := .builtin .append, args := _, argTypes := _ }) _ _ _ _ :: _) _ _)); refine wpList_appN_st (N := k + 1) (o := ⟨some 20, .call { callee := .builtin .append, args := _, argTypes := _ }, _, _, _, _⟩) rfl _ _ _ _ rfl _ Try.underlying22 in_uint8 rfl HS tk rfl (Src.row HS tk Try.underlying22 rfx rfx) (by omega) mxl (by omega) ?_; clear HS; intro a20 c20 w20 hb20 HS)
            | ((with_reducible (show wpList _ _ _ (Oper.mk (some 22) (Op.convert _ _ _) _ _ _ _ :: _) _ _)); refine wpList_backS_st (o := ⟨some 22, .convert _ _ _, _, _, _, _⟩) rfl _ _ _ rfl _ Try.underlying22 Try.underlying5 Try.underlying9 rfl HS tk ?_))
      rw [byteCells_one rl rh, ← byteCells_append] at HS
      go_roundw
      case rel => exact ⟨k + 1, s ++ ⟨#[UInt8.ofNat r.toNat]⟩, _, _, hlt, by rw [ByteArray.size_append, hsz]; rfl, by go_num, rfl, (HS.arr (by repeat (first | exact Arr.nil | (with_reducible exact take_all _) | (refine Arr.cons tk ?_) | (refine arr_skip ?_))))⟩
      case measure => simp [intOf]; omega
    case neg =>
      obtain rfl : k = n := by omega
      have HZ := hid hsz
      clear hsz
      go_wp2_with (first
            | ((with_reducible (show wpList _ _ _ (Oper.mk (some 9) (Op.buildSlice _ _ _) _ _ _ _ :: _) _ _)); refine wpList_bslice0_st (o := ⟨some 9, .buildSlice _ _ _, _, _, _, _⟩) rfl _ rfl _ Try.underlying22 in_uint8 HS ?_; clear HS; intro w9 b9 hb9 HS; replace HS := HS.slotMade 1 tk)
            | ((with_reducible (show wpList _ _ _ (Oper.mk (some 19) (Op.buildSlice _ _ _) _ _ _ _ :: _) _ _)); refine wpList_bslice1_st (o := ⟨some 19, .buildSlice _ _ _, _, _, _, _⟩) rfl _ _ rfl _ Try.underlying22 in_uint8 (by decide) (by decide) (x := .int .u8 _) rfl vcs rfx HS ?_; clear HS; intro w19 b19 hb19 HS)
            | ((with_reducible (show wpList _ _ _ (Oper.mk (some 19) (Op.buildSlice _ _ _) _ _ _ _ :: _) _ _)); refine wpList_bslice1_st (o := ⟨some 19, .buildSlice _ _ _, _, _, _, _⟩) rfl _ _ rfl _ Try.underlying22 in_uint8 (by decide) (by decide) (x := _) rfl vcs rfx HS ?_; clear HS; intro w19 b19 hb19 HS)
            | ((with_reducible (show wpList _ _ _ (Oper.mk (some 20) (Op.call { callee := .builtin .append, args := _, argTypes := _ }) _ _ _ _ :: _) _ _)); refine wpList_appN_st (N := k + 1) (o := ⟨some 20, .call { callee := .builtin .append, args := _, argTypes := _ }, _, _, _, _⟩) rfl _ _ _ _ rfl _ Try.underlying22 in_uint8 rfl HS tk rfl (Src.row HS tk Try.underlying22 rfx rfx) (by omega) mxl (by omega) ?_; clear HS; intro a20 c20 w20 hb20 HS)
            | ((with_reducible (show wpList _ _ _ (Oper.mk (some 22) (Op.convert _ _ _) _ _ _ _ :: _) _ _)); refine wpList_backS_st (o := ⟨some 22, .convert _ _ _, _, _, _, _⟩) rfl _ _ _ rfl _ Try.underlying22 Try.underlying5 Try.underlying9 rfl HS tk ?_))
      go_ret
      exact ⟨s, by rw [HZ.out]; rfl, rfl, (HS.arr (by repeat (first | exact Arr.nil | (with_reducible exact take_all _) | (refine Arr.cons tk ?_) | (refine arr_skip ?_))))⟩

def zeroS (n : Nat) : ByteArray := ⟨(List.replicate n (0 : UInt8)).toArray⟩
theorem zeroS_size (n : Nat) : (zeroS n).size = n := by show (List.replicate n (0 : UInt8)).toArray.size = n; simp
theorem zeroS_cells (n : Nat) : List.replicate n (Value.int .u8 0) = byteCells (zeroS n) := by
  simp [byteCells, zeroS]
theorem nicL_rep (z : Value) : ∀ (n i : Nat), nicL (List.replicate n z) i [z] = List.replicate n z
  | 0, i => by rw [List.replicate_zero, nicL_nil]
  | n + 1, 0 => by rw [List.replicate_succ]; simp [nicL]
  | n + 1, i + 1 => by rw [List.replicate_succ]; simp only [nicL]; rw [nicL_rep z n i]
theorem bAt_zeroS (n k : Nat) : bAt (zeroS n) k = 0 := by
  unfold bAt
  split
  · rename_i h
    show ((List.replicate n (0 : UInt8)).toArray[k]'(by rw [zeroS_size] at h; simpa using h)).toNat = 0
    simp
  · rfl

set_option maxRecDepth 100000 in
set_option maxHeartbeats 4000000 in
theorem l01Long_zero (n : Nat) (hn : n ≤ 1000000) {kk : Int} (hk : kk = (n : Int)) (w : World) :
    Calls Try.prog 53 #[.int .i64 kk, .int .u8 0] w fun e w' => e = .returned (.string (zeroS n)) ∧ Ex w w' := by
  subst hk
  have HS := St.start w
  go_enter Try.func53, Try.ntmps53
  go_wp2_with (first
        | ((with_reducible (show wpList _ _ _ (Oper.mk (some 8) (Op.makeSlice _ _ _) _ _ _ _ :: _) _ _)); refine wpList_make_st (o := ⟨some 8, .makeSlice _ _ _, _, _, _, _⟩) rfl _ _ _ rfl _ Try.underlying22 in_uint8 (n := n) rfl rfl rfl (by omega) (by omega) HS ?_; clear HS; intro w8 b8 hb8 HS)
        | ((with_reducible (show wpList _ _ _ (Oper.mk none (Op.store _ (.tmp 17) _) _ _ _ _ :: _) _ _)); refine wpList_store_st (o := ⟨none, .store _ (.tmp 17) _, _, _, _, _⟩) rfl _ _ _ rfl rfl (v := .int .u8 _) rfl HS tk sz_uint8 vcs rfx rfx hl ?_ rfl; clear HS; intro w5_4 hz5_4 HS; rw [nicL_rep] at HS)
        | ((with_reducible (show wpList _ _ _ (Oper.mk (some 19) (Op.convert _ _ _) _ _ _ _ :: _) _ _)); refine wpList_back_st (o := ⟨some 19, .convert _ _ _, _, _, _, _⟩) rfl _ _ _ rfl _ Try.underlying22 Try.underlying5 Try.underlying9 rfl HS tk (by simp) ?_))
  go_loopw [6] (fun i wr => ∃ k : Nat, k ≤ n ∧ i = .int .i64 (k : Int) ∧ St w wr [rowA b8 (List.replicate n (.int .u8 0)) 5]) (fun i _ => n - (intOf i).toNat)
  case atStart => exact ⟨0, Nat.zero_le _, rfl, (HS.arr (by repeat (first | exact Arr.nil | (with_reducible exact take_all _) | (refine Arr.cons tk ?_) | (refine arr_skip ?_))))⟩
  case round =>
    clear HS
    obtain ⟨k, hkn, rfl, HS⟩ := hrel
    by_cases hlt : k < n
    case pos =>
      have hl : k + 1 ≤ (List.replicate n (Value.int .u8 0)).length := by simp; omega
      go_wp2_with (first
            | ((with_reducible (show wpList _ _ _ (Oper.mk (some 8) (Op.makeSlice _ _ _) _ _ _ _ :: _) _ _)); refine wpList_make_st (o := ⟨some 8, .makeSlice _ _ _, _, _, _, _⟩) rfl _ _ _ rfl _ Try.underlying22 in_uint8 (n := n) rfl rfl rfl (by omega) (by omega) HS ?_; clear HS; intro w8 b8 hb8 HS)
            | ((with_reducible (show wpList _ _ _ (Oper.mk none (Op.store _ (.tmp 17) _) _ _ _ _ :: _) _ _)); refine wpList_store_st (o := ⟨none, .store _ (.tmp 17) _, _, _, _, _⟩) rfl _ _ _ rfl rfl (v := .int .u8 _) rfl HS tk sz_uint8 vcs rfx rfx hl ?_ rfl; clear HS; intro w5_4 hz5_4 HS; rw [nicL_rep] at HS)
            | ((with_reducible (show wpList _ _ _ (Oper.mk (some 19) (Op.convert _ _ _) _ _ _ _ :: _) _ _)); refine wpList_back_st (o := ⟨some 19, .convert _ _ _, _, _, _, _⟩) rfl _ _ _ rfl _ Try.underlying22 Try.underlying5 Try.underlying9 rfl HS tk (by simp) ?_))
      go_roundw
      case rel => exact ⟨k + 1, hlt, by go_num, (HS.arr (by repeat (first | exact Arr.nil | (with_reducible exact take_all _) | (refine Arr.cons tk ?_) | (refine arr_skip ?_))))⟩
      case measure => simp [intOf]; omega
    case neg =>
      obtain rfl : k = n := by omega
      rw [zeroS_cells] at HS
      replace HS := HS.rowByt tk (zeroS k) rfl
      have hz := zeroS_size k
      go_wp2_with (first
            | ((with_reducible (show wpList _ _ _ (Oper.mk (some 8) (Op.makeSlice _ _ _) _ _ _ _ :: _) _ _)); refine wpList_make_st (o := ⟨some 8, .makeSlice _ _ _, _, _, _, _⟩) rfl _ _ _ rfl _ Try.underlying22 in_uint8 (n := n) rfl rfl rfl (by omega) (by omega) HS ?_; clear HS; intro w8 b8 hb8 HS)
            | ((with_reducible (show wpList _ _ _ (Oper.mk none (Op.store _ (.tmp 17) _) _ _ _ _ :: _) _ _)); refine wpList_store_st (o := ⟨none, .store _ (.tmp 17) _, _, _, _, _⟩) rfl _ _ _ rfl rfl (v := .int .u8 _) rfl HS tk sz_uint8 vcs rfx rfx hl ?_ rfl; clear HS; intro w5_4 hz5_4 HS; rw [nicL_rep] at HS)
            | ((with_reducible (show wpList _ _ _ (Oper.mk (some 19) (Op.convert _ _ _) _ _ _ _ :: _) _ _)); refine wpList_back_st (o := ⟨some 19, .convert _ _ _, _, _, _, _⟩) rfl _ _ _ rfl _ Try.underlying22 Try.underlying5 Try.underlying9 rfl HS tk (zeroS_size k).symm ?_))
      go_ret
      exact ⟨rfl, HS.ex⟩

set_option maxRecDepth 100000 in
set_option maxHeartbeats 4000000 in
theorem newMemory_any (n : Nat) (hn : n ≤ 64) {kk : Int} (hk : kk = (n : Int)) (w : World) :
    Calls Try.prog 11 #[.int .i64 kk] w (RetMem w (List.replicate n (zeroS 128))) := by
  subst hk
  have HS := St.start w
  go_enter Try.func11, Try.ntmps11
  go_wp2_with (first
        | ((with_reducible (show wpList _ _ _ (Oper.mk (some 2) (Op.alloc _) _ _ _ _ :: _) _ _)); refine wpList_alloc_st (o := ⟨some 2, .alloc _, _, _, _, _⟩) rfl _ rfl zc_impl_Memory HS ?_; clear HS; intro w2 b2 hb2 HS)
        | ((with_reducible (show wpList _ _ _ (Oper.mk (some 3) (Op.alloc _) _ _ _ _ :: _) _ _)); refine wpList_alloc_st (o := ⟨some 3, .alloc _, _, _, _, _⟩) rfl _ rfl zc_impl_Memory HS ?_; clear HS; intro w3 b3 hb3 HS)
        | ((with_reducible (show wpList _ _ _ (Oper.mk none (Op.store _ (.tmp 3) _) _ _ _ _ :: _) _ _)); refine wpList_store_st (o := ⟨none, .store _ (.tmp 3) _, _, _, _, _⟩) rfl _ _ _ rfl rfl (v := .agg (List.toArray _)) rfl HS tk sz_impl_Memory vcs rfx rfx (by simp) ?_ rfl; clear HS; intro w1_2 hz1_2 HS; simp only [nicL, Value.cells, List.append_nil] at HS)
        | ((with_reducible (show wpList _ _ _ (Oper.mk none (Op.store _ (.tmp 3) _) _ _ _ _ :: _) _ _)); refine wpList_store_st (o := ⟨none, .store _ (.tmp 3) _, _, _, _, _⟩) rfl _ _ _ rfl rfl (v := .agg _) rfl HS tk sz_impl_Memory vcs rfx rfx (by simp) ?_ rfl; clear HS; intro w1_2 hz1_2 HS; simp only [nicL, Value.cells, List.append_nil] at HS)
        | ((with_reducible (show wpList _ _ _ (Oper.mk (some 21) (Op.load _ _) _ _ _ _ :: _) _ _)); refine wpList_loadA_st (o := ⟨some 21, .load _ _, _, _, _, _⟩) rfl _ _ rfl rfl HS tk ag_impl_Memory lit rfl ?_)
        | ((with_reducible (show wpList _ _ _ (Oper.mk none (Op.store _ (.tmp 2) _) _ _ _ _ :: _) _ _)); refine wpList_store_st (o := ⟨none, .store _ (.tmp 2) _, _, _, _, _⟩) rfl _ _ _ rfl rfl (v := .agg (List.toArray _)) rfl HS tk sz_impl_Memory vcs rfx rfx (by simp) ?_ rfl; clear HS; intro w6_1 hz6_1 HS; simp only [nicL, Value.cells, List.append_nil] at HS)
        | ((with_reducible (show wpList _ _ _ (Oper.mk none (Op.store _ (.tmp 2) _) _ _ _ _ :: _) _ _)); refine wpList_store_st (o := ⟨none, .store _ (.tmp 2) _, _, _, _, _⟩) rfl _ _ _ rfl rfl (v := .agg _) rfl HS tk sz_impl_Memory vcs rfx rfx (by simp) ?_ rfl; clear HS; intro w6_1 hz6_1 HS; simp only [nicL, Value.cells, List.append_nil] at HS))
  replace HS := HS.empty (α := ByteArray) none
  go_loopw [4] (fun i wr => ∃ (k : Nat) (ps : Pg) (A1 : Option Addr) (c1 : Nat), k ≤ n ∧ Hid (ps = List.replicate k (zeroS 128)) ∧ ps.length = k ∧ i = .int .i64 (k : Int) ∧ St w wr [rowA b3 [.slice A1 ps.length c1] 27, rowA b2 [.slice none 0 0] 27, ownA ps [.slice A1 ps.length c1]]) (fun i _ => n - (intOf i).toNat)
  case atStart => exact ⟨0, [], none, 0, Nat.zero_le _, hid rfl, rfl, rfl, (HS.arr (by repeat (first | exact Arr.nil | (with_reducible exact take_all _) | (refine Arr.cons tk ?_) | (refine arr_skip ?_))))⟩
  case round =>
    clear HS
    obtain ⟨k, ps, A1, c1, hkn, HP, hlen, rfl, HS⟩ := hrel
    by_cases hlt : k < n
    case pos =>
      have HP2 : Hid (ps ++ [zeroS 128] = List.replicate (k + 1) (zeroS 128)) := hid (by rw [HP.out, List.replicate_succ'])
      have HL := hid hlen
      have hl2 : ps.length ≤ 64 := by omega
      clear hlen
      go_wp2_with (first
            | ((with_reducible (show wpList _ _ _ (Oper.mk (some 2) (Op.alloc _) _ _ _ _ :: _) _ _)); refine wpList_alloc_st (o := ⟨some 2, .alloc _, _, _, _, _⟩) rfl _ rfl zc_impl_Memory HS ?_; clear HS; intro w2 b2 hb2 HS)
            | ((with_reducible (show wpList _ _ _ (Oper.mk (some 3) (Op.alloc _) _ _ _ _ :: _) _ _)); refine wpList_alloc_st (o := ⟨some 3, .alloc _, _, _, _, _⟩) rfl _ rfl zc_impl_Memory HS ?_; clear HS; intro w3 b3 hb3 HS)
            | ((with_reducible (show wpList _ _ _ (Oper.mk none (Op.store _ (.tmp 3) _) _ _ _ _ :: _) _ _)); refine wpList_store_st (o := ⟨none, .store _ (.tmp 3) _, _, _, _, _⟩) rfl _ _ _ rfl rfl (v := .agg (List.toArray _)) rfl HS tk sz_impl_Memory vcs rfx rfx (by simp) ?_ rfl; clear HS; intro w1_2 hz1_2 HS; simp only [nicL, Value.cells, List.append_nil] at HS)
            | ((with_reducible (show wpList _ _ _ (Oper.mk none (Op.store _ (.tmp 3) _) _ _ _ _ :: _) _ _)); refine wpList_store_st (o := ⟨none, .store _ (.tmp 3) _, _, _, _, _⟩) rfl _ _ _ rfl rfl (v := .agg _) rfl HS tk sz_impl_Memory vcs rfx rfx (by simp) ?_ rfl; clear HS; intro w1_2 hz1_2 HS; simp only [nicL, Value.cells, List.append_nil] at HS)
            | ((with_reducible (show wpList _ _ _ (Oper.mk (some 21) (Op.load _ _) _ _ _ _ :: _) _ _)); refine wpList_loadA_st (o := ⟨some 21, .load _ _, _, _, _, _⟩) rfl _ _ rfl rfl HS tk ag_impl_Memory lit rfl ?_)
            | ((with_reducible (show wpList _ _ _ (Oper.mk none (Op.store _ (.tmp 2) _) _ _ _ _ :: _) _ _)); refine wpList_store_st (o := ⟨none, .store _ (.tmp 2) _, _, _, _, _⟩) rfl _ _ _ rfl rfl (v := .agg (List.toArray _)) rfl HS tk sz_impl_Memory vcs rfx rfx (by simp) ?_ rfl; clear HS; intro w6_1 hz6_1 HS; simp only [nicL, Value.cells, List.append_nil] at HS)
            | ((with_reducible (show wpList _ _ _ (Oper.mk none (Op.store _ (.tmp 2) _) _ _ _ _ :: _) _ _)); refine wpList_store_st (o := ⟨none, .store _ (.tmp 2) _, _, _, _, _⟩) rfl _ _ _ rfl rfl (v := .agg _) rfl HS tk sz_impl_Memory vcs rfx rfx (by simp) ?_ rfl; clear HS; intro w6_1 hz6_1 HS; simp only [nicL, Value.cells, List.append_nil] at HS))
      refine wp_region_fl HS (show Arr _ [rowA b3 _ _] from ary) (.early 0 (.early 1 (.forced 2 1 (.forced 3 1 (.forced 4 1 (.early 5 (.forced 6 2 .done))))))) [] (by kernel_rfl) (by as_aux_lemma => kernel_rfl) ?_
      intro hne
      clear HS
      try go_simp
      repeat' (first
        | (with_reducible refine wpF_forced ?_)
        | ((with_reducible (first | (show wpF _ _ _ _ _ (.early 0 _) _ _) | (show wpF _ _ _ _ _ (.early 5 _) _ _))); (first | (refine wpF_skipE rfl rfl ?_; (try go_simp)) | (refine wpF_early rfl rfl ?_; intro K hK; (first | go_big_quiet_op); (first | go_big_quiet_on | (refine ⟨_, fun _ => rfl, ?_⟩; go_big_quiet_on)))))
        | ((with_reducible ((show wpF _ _ _ _ _ (.early 1 _) _ _))); (first | (refine wpF_skipE rfl rfl ?_; (try go_simp)) | (refine wpF_early rfl rfl ?_; intro K hK; (first | ((refine quiet_loadS_st  _ _ rfl rfl tk sc_Sstring rfx ?_); (try go_simp)) | go_big_quiet_op); (first | go_big_quiet_on | (refine ⟨_, fun _ => rfl, ?_⟩; go_big_quiet_on)))))
        | ((with_reducible ((show OneF _ _ _ _ _ 2 1 _ _ _))); (first | (refine oneF_skip rfl rfl ?_; (try go_simp)) | (refine oneF_1 rfl rfl ?_; intro wq Fq HS K hK; go_simp; (first | (go_at_call 53; (with_reducible refine (l01Long_zero 128 (by omega) (by omega) _).mono ?_); rintro e w' ⟨rfl, hx⟩; replace HS := HS.grow hx; clear hx)); (try go_simp); refine hK _ _ _ ?_ (HS.take tk) ?_; (focus (exact stw HS)); clear HS hK K)))
        | ((with_reducible ((show OneF _ _ _ _ _ 3 1 _ _ _))); (first | (refine oneF_skip rfl rfl ?_; (try go_simp)) | (refine oneF_1 rfl rfl ?_; intro wq Fq HS K hK; (first | (refine wp_bslice1_st  _ _ rfl _ Try.underlying25 in_string (by decide) (by decide) (x := .string _) rfl vcs rfx HS ?_; clear HS; intro w18 b18 hb18 HS) | (refine wp_bslice1_st  _ _ rfl _ Try.underlying25 in_string (by decide) (by decide) (x := _) rfl vcs rfx HS ?_; clear HS; intro w18 b18 hb18 HS)); (try go_simp); refine hK _ _ _ ?_ (HS.take tk) ?_; (focus (exact stw HS)); clear HS hK K)))
        | ((with_reducible ((show OneF _ _ _ _ _ 4 1 _ _ _))); (first | (refine oneF_skip rfl rfl ?_; (try go_simp)) | (refine oneF_1 rfl rfl ?_; intro wq Fq HS K hK; (first | (refine wp_appO_st  (α := ByteArray) (el := (zeroS 128)) _ _ _ _ rfl _ Try.underlying25 in_string rfl rfl HS tk rfl (Src.row HS tk Try.underlying25 rfx rfx) rfl (show ByteArray.size _ ≤ maxLen from by rw [zeroS_size]; unfold maxLen; omega) mxl (by omega) ?_; clear HS; intro a19 c19 w19 hb19 HS)); (try go_simp); refine hK _ _ _ ?_ (HS.take tk) ?_; (focus (exact stw HS)); clear HS hK K)))
        | ((with_reducible ((show OneF _ _ _ _ _ 6 2 _ _ _))); (first | (refine oneF_skip rfl rfl ?_; (try go_simp)) | (refine oneF_2 rfl rfl ?_; intro wq Fq HS K hK; (first | (refine wp_store_st  _ _ _ rfl rfl (v := .slice _ _ _) rfl HS tk sz_Sstring vcs rfx rfx (by simp) ?_ rfl; clear HS; intro w5_6 hz5_6 HS; simp only [nicL, Value.cells, List.append_nil] at HS)); (try go_simp); refine hK _ _ _ (HS.take tk) ?_; clear HS hK K)))
        | (with_reducible refine wpF_done ?_))
      all_goals intro w9 HS
      go_wp2_with (first
            | ((with_reducible (show wpList _ _ _ (Oper.mk (some 2) (Op.alloc _) _ _ _ _ :: _) _ _)); refine wpList_alloc_st (o := ⟨some 2, .alloc _, _, _, _, _⟩) rfl _ rfl zc_impl_Memory HS ?_; clear HS; intro w2 b2 hb2 HS)
            | ((with_reducible (show wpList _ _ _ (Oper.mk (some 3) (Op.alloc _) _ _ _ _ :: _) _ _)); refine wpList_alloc_st (o := ⟨some 3, .alloc _, _, _, _, _⟩) rfl _ rfl zc_impl_Memory HS ?_; clear HS; intro w3 b3 hb3 HS)
            | ((with_reducible (show wpList _ _ _ (Oper.mk none (Op.store _ (.tmp 3) _) _ _ _ _ :: _) _ _)); refine wpList_store_st (o := ⟨none, .store _ (.tmp 3) _, _, _, _, _⟩) rfl _ _ _ rfl rfl (v := .agg (List.toArray _)) rfl HS tk sz_impl_Memory vcs rfx rfx (by simp) ?_ rfl; clear HS; intro w1_2 hz1_2 HS; simp only [nicL, Value.cells, List.append_nil] at HS)
            | ((with_reducible (show wpList _ _ _ (Oper.mk none (Op.store _ (.tmp 3) _) _ _ _ _ :: _) _ _)); refine wpList_store_st (o := ⟨none, .store _ (.tmp 3) _, _, _, _, _⟩) rfl _ _ _ rfl rfl (v := .agg _) rfl HS tk sz_impl_Memory vcs rfx rfx (by simp) ?_ rfl; clear HS; intro w1_2 hz1_2 HS; simp only [nicL, Value.cells, List.append_nil] at HS)
            | ((with_reducible (show wpList _ _ _ (Oper.mk (some 21) (Op.load _ _) _ _ _ _ :: _) _ _)); refine wpList_loadA_st (o := ⟨some 21, .load _ _, _, _, _, _⟩) rfl _ _ rfl rfl HS tk ag_impl_Memory lit rfl ?_)
            | ((with_reducible (show wpList _ _ _ (Oper.mk none (Op.store _ (.tmp 2) _) _ _ _ _ :: _) _ _)); refine wpList_store_st (o := ⟨none, .store _ (.tmp 2) _, _, _, _, _⟩) rfl _ _ _ rfl rfl (v := .agg (List.toArray _)) rfl HS tk sz_impl_Memory vcs rfx rfx (by simp) ?_ rfl; clear HS; intro w6_1 hz6_1 HS; simp only [nicL, Value.cells, List.append_nil] at HS)
            | ((with_reducible (show wpList _ _ _ (Oper.mk none (Op.store _ (.tmp 2) _) _ _ _ _ :: _) _ _)); refine wpList_store_st (o := ⟨none, .store _ (.tmp 2) _, _, _, _, _⟩) rfl _ _ _ rfl rfl (v := .agg _) rfl HS tk sz_impl_Memory vcs rfx rfx (by simp) ?_ rfl; clear HS; intro w6_1 hz6_1 HS; simp only [nicL, Value.cells, List.append_nil] at HS))
      go_roundw
      case rel => exact ⟨k + 1, ps ++ [zeroS 128], _, _, hlt, HP2, by rw [List.length_append, HL.out]; rfl, by go_num, by rw [List.length_append]; exact (HS.arr (by repeat (first | exact Arr.nil | (with_reducible exact take_all _) | (refine Arr.cons tk ?_) | (refine arr_skip ?_))))⟩
      case measure => simp [intOf]; omega
    case neg =>
      obtain rfl : k = n := by omega
      clear hlen
      go_wp2_with (first
            | ((with_reducible (show wpList _ _ _ (Oper.mk (some 2) (Op.alloc _) _ _ _ _ :: _) _ _)); refine wpList_alloc_st (o := ⟨some 2, .alloc _, _, _, _, _⟩) rfl _ rfl zc_impl_Memory HS ?_; clear HS; intro w2 b2 hb2 HS)
            | ((with_reducible (show wpList _ _ _ (Oper.mk (some 3) (Op.alloc _) _ _ _ _ :: _) _ _)); refine wpList_alloc_st (o := ⟨some 3, .alloc _, _, _, _, _⟩) rfl _ rfl zc_impl_Memory HS ?_; clear HS; intro w3 b3 hb3 HS)
            | ((with_reducible (show wpList _ _ _ (Oper.mk none (Op.store _ (.tmp 3) _) _ _ _ _ :: _) _ _)); refine wpList_store_st (o := ⟨none, .store _ (.tmp 3) _, _, _, _, _⟩) rfl _ _ _ rfl rfl (v := .agg (List.toArray _)) rfl HS tk sz_impl_Memory vcs rfx rfx (by simp) ?_ rfl; clear HS; intro w1_2 hz1_2 HS; simp only [nicL, Value.cells, List.append_nil] at HS)
            | ((with_reducible (show wpList _ _ _ (Oper.mk none (Op.store _ (.tmp 3) _) _ _ _ _ :: _) _ _)); refine wpList_store_st (o := ⟨none, .store _ (.tmp 3) _, _, _, _, _⟩) rfl _ _ _ rfl rfl (v := .agg _) rfl HS tk sz_impl_Memory vcs rfx rfx (by simp) ?_ rfl; clear HS; intro w1_2 hz1_2 HS; simp only [nicL, Value.cells, List.append_nil] at HS)
            | ((with_reducible (show wpList _ _ _ (Oper.mk (some 21) (Op.load _ _) _ _ _ _ :: _) _ _)); refine wpList_loadA_st (o := ⟨some 21, .load _ _, _, _, _, _⟩) rfl _ _ rfl rfl HS tk ag_impl_Memory lit rfl ?_)
            | ((with_reducible (show wpList _ _ _ (Oper.mk none (Op.store _ (.tmp 2) _) _ _ _ _ :: _) _ _)); refine wpList_store_st (o := ⟨none, .store _ (.tmp 2) _, _, _, _, _⟩) rfl _ _ _ rfl rfl (v := .agg (List.toArray _)) rfl HS tk sz_impl_Memory vcs rfx rfx (by simp) ?_ rfl; clear HS; intro w6_1 hz6_1 HS; simp only [nicL, Value.cells, List.append_nil] at HS)
            | ((with_reducible (show wpList _ _ _ (Oper.mk none (Op.store _ (.tmp 2) _) _ _ _ _ :: _) _ _)); refine wpList_store_st (o := ⟨none, .store _ (.tmp 2) _, _, _, _, _⟩) rfl _ _ _ rfl rfl (v := .agg _) rfl HS tk sz_impl_Memory vcs rfx rfx (by simp) ?_ rfl; clear HS; intro w6_1 hz6_1 HS; simp only [nicL, Value.cells, List.append_nil] at HS))
      refine bodyPost_retc rfx rfx HS tk ag_impl_Memory rfx rfx ?_
      rw [← HP.out]
      exact retMem HS tk

def mapF (l : List Mp) (x : Mp) : List Mp × Bool := if mapsOk l && mapsOk (l ++ [x]) then (l ++ [x], true) else (l, false)
def RetMps (w : World) (l : List Mp) (ok : Bool) (e : Ending) (w' : World) : Prop := ∃ A k, e = .returned (.tuple #[.slice A l.length k, .bool ok]) ∧ Owns w.heap.size w' l [.slice A l.length k] ∧ Ex w w'
theorem retMps {w0 w : World} {Is Js : List Asn} {l : List Mp} {v : Value} {ok : Bool} (h : St w0 w Is) (t : Take Is (ownA l [v]) Js) : RetMps w0 l ok (.returned (.tuple #[v, .bool ok])) w := by
  obtain ⟨a, k, rfl⟩ := ownA.form h t
  exact ⟨a, k, rfl, h.owns t, h.ex⟩

set_option maxRecDepth 100000 in
set_option maxHeartbeats 4000000 in
theorem mapPage_yes (v : Value) (l : List Mp) (xd xv xp : Int) (xw : Bool) (w : World) (k1 : Holds w l [v]) (hl : l.length ≤ 1000) (hx1 : i64ok xd) (hx2 : i64ok xv) (hx3 : i64ok xp) (hq : mapsOk l = true) (hq2 : mapsOk (l ++ [(xd, xv, xp, xw)]) = true) :
    Calls Try.prog 109 #[v, .agg #[.int .i64 xd, .int .i64 xv, .int .i64 xp, .bool xw]] w (RetMps w (l ++ [(xd, xv, xp, xw)]) true) := by
  obtain ⟨AA, cap, rfl, z1, z2⟩ := k1.fl
  unfold maxLen at z2
  have HQ := hid hq
  have HQ2 := hid hq2
  have HOK : Hid (∀ y ∈ l ++ [((xd, xv, xp, xw) : Mp)], Flat.ok y) := hid (fun y hy => by
    rcases List.mem_append.1 hy with h | h
    · exact k1.flok h
    · rw [List.mem_singleton.1 h]; exact ⟨hx1, hx2, hx3, trivial⟩)
  clear hq hq2
  have HS := St.start w
  go_enter Try.func109, Try.ntmps109
  go_wp2_with (first
        | ((with_reducible (show wpList _ _ _ (Oper.mk (some 3) (Op.box _ _) _ _ _ _ :: _) _ _)); refine wpList_box_st (o := ⟨some 3, .box _ _, _, _, _, _⟩) rfl _ _ rfl (v := .agg (List.toArray _)) rfl HS ?_; clear HS; intro w3 b3 hb3 HS; simp only [Value.cells] at HS)
        | ((with_reducible (show wpList _ _ _ (Oper.mk (some 3) (Op.box _ _) _ _ _ _ :: _) _ _)); refine wpList_box_st (o := ⟨some 3, .box _ _, _, _, _, _⟩) rfl _ _ rfl (v := .agg _) rfl HS ?_; clear HS; intro w3 b3 hb3 HS; simp only [Value.cells] at HS)
        | ((with_reducible (show wpList _ _ _ (Oper.mk (some 21) (Op.buildSlice _ _ _) _ _ _ _ :: _) _ _)); refine wpList_bslice0_st (o := ⟨some 21, .buildSlice _ _ _, _, _, _, _⟩) rfl _ rfl _ Try.underlying24 in_impl_Mapping HS ?_; clear HS; intro w21 b21 hb21 HS; replace HS := HS.slotMade 4 tk)
        | ((with_reducible (show wpList _ _ _ (Oper.mk (some 23) (Op.call { callee := .builtin .append, args := _, argTypes := _ }) _ _ _ _ :: _) _ _)); refine wpList_appN_st (N := l.length) (o := ⟨some 23, .call { callee := .builtin .append, args := _, argTypes := _ }, _, _, _, _⟩) rfl _ _ _ _ rfl _ Try.underlying24 in_impl_Mapping rfl HS tk rfl ((k1.ex HS.ex).srcFlat Try.underlying24) (by omega) mxl (by omega) ?_; clear HS; intro a23 c23 w23 hb23 HS; (try simp only [List.nil_append] at HS); replace HS := HS.shut (α := Mp) (xs := l) tk rfl (fun x hx => k1.flok hx)))
  refine wp_region_fl HS (show Arr _ [rowA b3 _ _] from ary) (.early 1 (.early 3 (.fork 0 1 (.fork 2 1 (.forced 4 1 (.forced 5 2 (.pure 6 .done))) 4 1 (.forced 2 1 (.forced 5 2 (.pure 6 .done)))) 4 1 (.forced 0 1 (.forced 2 1 (.forced 5 2 (.pure 6 .done))))))) [] (by kernel_rfl) (by as_aux_lemma => kernel_rfl) ?_
  intro hne
  clear HS
  try go_simp
  repeat' (first
    | (with_reducible refine wpF_fork ?_ ?_)
    | (with_reducible refine wpF_forced ?_)
    | ((with_reducible ((show wpF _ _ _ _ _ (.early 1 _) _ _))); (first | (refine wpF_skipE rfl rfl ?_; (try go_simp)) | (refine wpF_early rfl rfl ?_; intro K hK; (first | go_big_quiet_op); (first | go_big_quiet_on | (refine ⟨_, fun _ => rfl, ?_⟩; go_big_quiet_on)))))
    | ((with_reducible ((show wpF _ _ _ _ _ (.early 3 _) _ _))); (first | (refine wpF_skipE rfl rfl ?_; (try go_simp)) | (refine wpF_early rfl rfl ?_; intro K hK; (first | ((refine quiet_loadA_st  _ _ rfl rfl tk ag_impl_Mapping lit rfl ?_); (try go_simp)) | go_big_quiet_op); (first | go_big_quiet_on | (refine ⟨_, fun _ => rfl, ?_⟩; go_big_quiet_on)))))
    | ((with_reducible ((show OneF _ _ _ _ _ 0 1 _ _ _))); (first | (refine oneF_skip rfl rfl ?_; (try go_simp)) | (refine oneF_1 rfl rfl ?_; intro wq Fq HS K hK; (first | (refine wp_bslice0_st  _ rfl _ Try.underlying24 in_impl_Mapping HS ?_; clear HS; intro w7 b7 hb7 HS)); replace HS := HS.slotMade 4 tk; (try go_simp); refine hK _ _ _ ?_ (HS.take tk) ?_; (focus (exact stw HS)); clear HS hK K)))
    | ((with_reducible ((show OneF _ _ _ _ _ 2 1 _ _ _))); (first | (refine oneF_skip rfl rfl ?_; (try go_simp)) | (refine oneF_1 rfl rfl ?_; intro wq Fq HS K hK; (first | (refine wp_appN_st  (N := l.length) _ _ _ _ rfl _ Try.underlying24 in_impl_Mapping rfl HS tk rfl ((k1.ex HS.ex).srcFlat Try.underlying24) (by omega) mxl (by omega) ?_; clear HS; intro a9 c9 w9 hb9 HS)); (try simp only [List.nil_append] at HS); (try go_simp); refine hK _ _ _ ?_ (HS.take tk) ?_; (focus (exact stw HS)); clear HS hK K)))
    | ((with_reducible ((show OneF _ _ _ _ _ 4 1 _ _ _))); (first | (refine oneF_skip rfl rfl ?_; (try go_simp)) | (refine oneF_1 rfl rfl ?_; intro wq Fq HS K hK; (first | (refine wp_bslice1_st  _ _ rfl _ Try.underlying24 in_impl_Mapping (by decide) (by decide) (x := .agg (List.toArray _)) rfl vcs rfx HS ?_; clear HS; intro w11 b11 hb11 HS) | (refine wp_bslice1_st  _ _ rfl _ Try.underlying24 in_impl_Mapping (by decide) (by decide) (x := .agg _) rfl vcs rfx HS ?_; clear HS; intro w11 b11 hb11 HS)); (try go_simp); refine hK _ _ _ ?_ (HS.take tk) ?_; (focus (exact stw HS)); clear HS hK K)))
    | ((with_reducible ((show OneF _ _ _ _ _ 5 2 _ _ _))); (first | (refine oneF_skip rfl rfl ?_; (try go_simp)) | (refine oneF_2 rfl rfl ?_; intro wq Fq HS K hK; (first | (refine wp_appN_st  (N := l.length + 1) _ _ _ _ rfl _ Try.underlying24 in_impl_Mapping rfl HS tk rfl (Src.row HS tk Try.underlying24 rfx rfx) (by omega) mxl (by omega) ?_; clear HS; intro a12 c12 w12 hb12 HS)); replace HS := HS.shut (α := Mp) (xs := l ++ [(xd, xv, xp, xw)]) tk (by rw [List.flatMap_append]; rfl) (fun x hx => HOK.out x hx); (try go_simp); refine hK _ _ _ (HS.take tk) ?_; clear HS hK K)))
    | ((with_reducible ((show wpF _ _ _ _ _ (.pure _ _) _ _))); (first | (refine wpF_skipP rfl rfl ?_; (try go_simp)) | (refine wpF_pure rfl rfl ?_; intro K hK; go_big_quiet_op; (first | go_big_quiet_on | (refine ⟨_, fun _ => rfl, ?_⟩; go_big_quiet_on)))))
    | (with_reducible refine wpF_done ?_))
  all_goals intro w9 HS
  all_goals
    go_wp2_with (first
          | (go_at_call 142; (first | (with_reducible refine (mappingsOkS_any _ l _ (k1.ex HS.ex)).mono ?_)); rintro e w' ⟨rfl, hx⟩; replace HS := HS.grow hx; clear hx; rw [HQ.out])
          | ((with_reducible (show wpList _ _ _ (Oper.mk (some 3) (Op.box _ _) _ _ _ _ :: _) _ _)); refine wpList_box_st (o := ⟨some 3, .box _ _, _, _, _, _⟩) rfl _ _ rfl (v := .agg (List.toArray _)) rfl HS ?_; clear HS; intro w3 b3 hb3 HS; simp only [Value.cells] at HS)
          | ((with_reducible (show wpList _ _ _ (Oper.mk (some 3) (Op.box _ _) _ _ _ _ :: _) _ _)); refine wpList_box_st (o := ⟨some 3, .box _ _, _, _, _, _⟩) rfl _ _ rfl (v := .agg _) rfl HS ?_; clear HS; intro w3 b3 hb3 HS; simp only [Value.cells] at HS)
          | ((with_reducible (show wpList _ _ _ (Oper.mk (some 21) (Op.buildSlice _ _ _) _ _ _ _ :: _) _ _)); refine wpList_bslice0_st (o := ⟨some 21, .buildSlice _ _ _, _, _, _, _⟩) rfl _ rfl _ Try.underlying24 in_impl_Mapping HS ?_; clear HS; intro w21 b21 hb21 HS; replace HS := HS.slotMade 4 tk)
          | ((with_reducible (show wpList _ _ _ (Oper.mk (some 23) (Op.call { callee := .builtin .append, args := _, argTypes := _ }) _ _ _ _ :: _) _ _)); refine wpList_appN_st (N := l.length) (o := ⟨some 23, .call { callee := .builtin .append, args := _, argTypes := _ }, _, _, _, _⟩) rfl _ _ _ _ rfl _ Try.underlying24 in_impl_Mapping rfl HS tk rfl ((k1.ex HS.ex).srcFlat Try.underlying24) (by omega) mxl (by omega) ?_; clear HS; intro a23 c23 w23 hb23 HS; (try simp only [List.nil_append] at HS); replace HS := HS.shut (α := Mp) (xs := l) tk rfl (fun x hx => k1.flok hx)))
    go_wp2_with (first
          | (go_at_call 142; (with_reducible refine (mappingsOkS_any _ (l ++ [(xd, xv, xp, xw)]) _ (HS.holds tk)).mono ?_); rintro e w' ⟨rfl, hx⟩; replace HS := HS.grow hx; clear hx; rw [HQ2.out])
          | ((with_reducible (show wpList _ _ _ (Oper.mk (some 3) (Op.box _ _) _ _ _ _ :: _) _ _)); refine wpList_box_st (o := ⟨some 3, .box _ _, _, _, _, _⟩) rfl _ _ rfl (v := .agg (List.toArray _)) rfl HS ?_; clear HS; intro w3 b3 hb3 HS; simp only [Value.cells] at HS)
          | ((with_reducible (show wpList _ _ _ (Oper.mk (some 3) (Op.box _ _) _ _ _ _ :: _) _ _)); refine wpList_box_st (o := ⟨some 3, .box _ _, _, _, _, _⟩) rfl _ _ rfl (v := .agg _) rfl HS ?_; clear HS; intro w3 b3 hb3 HS; simp only [Value.cells] at HS)
          | ((with_reducible (show wpList _ _ _ (Oper.mk (some 21) (Op.buildSlice _ _ _) _ _ _ _ :: _) _ _)); refine wpList_bslice0_st (o := ⟨some 21, .buildSlice _ _ _, _, _, _, _⟩) rfl _ rfl _ Try.underlying24 in_impl_Mapping HS ?_; clear HS; intro w21 b21 hb21 HS; replace HS := HS.slotMade 4 tk)
          | ((with_reducible (show wpList _ _ _ (Oper.mk (some 23) (Op.call { callee := .builtin .append, args := _, argTypes := _ }) _ _ _ _ :: _) _ _)); refine wpList_appN_st (N := l.length) (o := ⟨some 23, .call { callee := .builtin .append, args := _, argTypes := _ }, _, _, _, _⟩) rfl _ _ _ _ rfl _ Try.underlying24 in_impl_Mapping rfl HS tk rfl ((k1.ex HS.ex).srcFlat Try.underlying24) (by omega) mxl (by omega) ?_; clear HS; intro a23 c23 w23 hb23 HS; (try simp only [List.nil_append] at HS); replace HS := HS.shut (α := Mp) (xs := l) tk rfl (fun x hx => k1.flok hx)))
    go_ret2
    exact retMps HS tk

end Go.Proofs.Ytelkplponnfkpaa
