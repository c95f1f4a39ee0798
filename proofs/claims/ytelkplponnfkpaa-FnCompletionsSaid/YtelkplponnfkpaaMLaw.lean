/- The laws' helpers over memories. -/
import Derived.Test.YtelkplponnfkpaaRows
import Derived.Test.YtelkplponnfkpaaMemA
import Derived.Test.YtelkplponnfkpaaElem
import Derived.Test.YtelkplponnfkpaaGapN
import Derived.Test.YtelkplponnfkpaaStr
import Derived.Test.YtelkplponnfkpaaTk
namespace Go.Proofs.Ytelkplponnfkpaa
open Go.RowKit
set_option linter.unusedVariables false
set_option linter.unusedSimpArgs false

theorem _root_.Go.St.rowByt {w0 w : World} {Is Js : List Asn} {b : Nat} {cs : List Value} {T : TypeId} (h : St w0 w Is) (t : Take Is (rowA b cs T) Js) (s : ByteArray) (hc : cs = byteCells s) : St w0 w (bytA b s :: Js) := by
  subst hc
  exact (h.take t).same fun F hF => ⟨F, ⟨⟨_, _, _, hF.1, by simp [byteCells_length], fun j hj => by simp, fun j hj => frozen_row hF.1 j⟩, hF.2⟩, fun _ h => h⟩
def dig : Nat → ByteArray
  | 0 => ⟨#[]⟩
  | n + 1 => dig ((n + 1) / 10) ++ ⟨#[UInt8.ofNat (48 + (n + 1) % 10)]⟩
termination_by n => n
decreasing_by omega
theorem dig_zero : dig 0 = ⟨#[]⟩ := by rw [dig]
theorem dig_pos {n : Nat} (h : 0 < n) : dig n = dig (n / 10) ++ ⟨#[UInt8.ofNat (48 + n % 10)]⟩ := by
  obtain ⟨m, rfl⟩ : ∃ m, n = m + 1 := ⟨n - 1, by omega⟩
  rw [dig]
theorem dig_size (n : Nat) : (dig n).size ≤ n := by
  induction n using Nat.strongRecOn with
  | _ n ih =>
    by_cases h : n = 0
    · subst h; rw [dig_zero]; exact Nat.le_refl _
    · rw [dig_pos (by omega), ByteArray.size_append]
      have := ih (n / 10) (by omega)
      have h1 : (⟨#[UInt8.ofNat (48 + n % 10)]⟩ : ByteArray).size = 1 := rfl
      omega
def mtext (k : Nat) : ByteArray := ⟨#[109]⟩ ++ dig k
theorem mtext_size (k : Nat) : (mtext k).size ≤ k + 1 := by
  unfold mtext; rw [ByteArray.size_append]
  have := dig_size k
  have h1 : (⟨#[109]⟩ : ByteArray).size = 1 := rfl
  omega
def mtexts (n : Nat) (k : Nat) : List ByteArray := (List.range n).map fun i => mtext (k + i)
theorem mtexts_length (n k : Nat) : (mtexts n k).length = n := by simp [mtexts]
theorem mtexts_get {n k i : Nat} (h : i < n) : (mtexts n k)[i]? = some (mtext (k + i)) := by simp [mtexts, h]
theorem ba_append_nil (s : ByteArray) : s ++ (⟨#[]⟩ : ByteArray) = s := ByteArray.append_empty

set_option maxRecDepth 100000 in
set_option maxHeartbeats 4000000 in
theorem markText_any (K : Nat) (w : World) (h0 : 0 < K) (h1 : K ≤ 4611686018427387904) :
    Calls Try.prog 131 #[.int .i64 K] w fun e w' => e = .returned (.string (mtext K)) ∧ Ex w w' := by
  have hsz := dig_size K
  have hd0 : decide ((K : Int) ≤ 0) = false := decide_eq_false (by omega)
  have hd1 : decide (K = 0) = false := decide_eq_false (by omega)
  have HSZ := hid hsz
  have HS := St.start w
  go_enter Try.func131, Try.ntmps131
  go_wp2_with (first
        | ((with_reducible (show wpList _ _ _ (Oper.mk (some 12) (Op.buildSlice _ _ _) _ _ _ _ :: _) _ _)); refine wpList_bslice1_st (o := ⟨some 12, .buildSlice _ _ _, _, _, _, _⟩) rfl _ _ rfl _ Try.underlying22 in_uint8 (by decide) (by decide) (x := .int .u8 _) rfl vcs rfx HS ?_; clear HS; intro w12 b12 hb12 HS; replace HS := HS.rowByt tk ⟨#[B]⟩ (by simp [byteCells, hu8]))
        | ((with_reducible (show wpList _ _ _ (Oper.mk (some 12) (Op.buildSlice _ _ _) _ _ _ _ :: _) _ _)); refine wpList_bslice1_st (o := ⟨some 12, .buildSlice _ _ _, _, _, _, _⟩) rfl _ _ rfl _ Try.underlying22 in_uint8 (by decide) (by decide) (x := _) rfl vcs rfx HS ?_; clear HS; intro w12 b12 hb12 HS; replace HS := HS.rowByt tk ⟨#[B]⟩ (by simp [byteCells, hu8]))
        | ((with_reducible (show wpList _ _ _ (Oper.mk (some 13) (Op.convert _ _ _) _ _ _ _ :: _) _ _)); refine wpList_back_st (o := ⟨some 13, .convert _ _ _, _, _, _, _⟩) rfl _ _ _ rfl _ Try.underlying22 Try.underlying5 Try.underlying9 rfl HS tk rfx ?_))
  go_loopw [0, 3] (fun kv ov wr => ∃ (n : Nat) (t : ByteArray), n ≤ K ∧ dig n ++ t = dig K ∧ kv = .int .i64 n ∧ ov = .string t ∧ St w wr []) (fun kv _ _ => (intOf kv).toNat)
  case atStart => exact ⟨K, ⟨#[]⟩, Nat.le_refl _, ba_append_nil _, rfl, rfl, (HS.arr (by repeat (first | exact Arr.nil | (with_reducible exact take_all _) | (refine Arr.cons tk ?_) | (refine arr_skip ?_))))⟩
  case round =>
    clear HS
    obtain ⟨n, t, hn, ht, rfl, rfl, HS⟩ := hrel
    by_cases h0 : n = 0
    case pos =>
      subst h0
      have hts : t.size ≤ K := by have := congrArg ByteArray.size ht; rw [ByteArray.size_append] at this; omega
      rw [dig_zero, show (⟨#[]⟩ : ByteArray) ++ t = t from ByteArray.empty_append] at ht
      have HT := hid ht
      clear ht hsz
      have hl : ¬ (9223372036854775807 < 1 + t.size) := by omega
      go_wp2_with (first
            | ((with_reducible (show wpList _ _ _ (Oper.mk (some 12) (Op.buildSlice _ _ _) _ _ _ _ :: _) _ _)); refine wpList_bslice1_st (o := ⟨some 12, .buildSlice _ _ _, _, _, _, _⟩) rfl _ _ rfl _ Try.underlying22 in_uint8 (by decide) (by decide) (x := .int .u8 _) rfl vcs rfx HS ?_; clear HS; intro w12 b12 hb12 HS; replace HS := HS.rowByt tk ⟨#[B]⟩ (by simp [byteCells, hu8]))
            | ((with_reducible (show wpList _ _ _ (Oper.mk (some 12) (Op.buildSlice _ _ _) _ _ _ _ :: _) _ _)); refine wpList_bslice1_st (o := ⟨some 12, .buildSlice _ _ _, _, _, _, _⟩) rfl _ _ rfl _ Try.underlying22 in_uint8 (by decide) (by decide) (x := _) rfl vcs rfx HS ?_; clear HS; intro w12 b12 hb12 HS; replace HS := HS.rowByt tk ⟨#[B]⟩ (by simp [byteCells, hu8]))
            | ((with_reducible (show wpList _ _ _ (Oper.mk (some 13) (Op.convert _ _ _) _ _ _ _ :: _) _ _)); refine wpList_back_st (o := ⟨some 13, .convert _ _ _, _, _, _, _⟩) rfl _ _ _ rfl _ Try.underlying22 Try.underlying5 Try.underlying9 rfl HS tk rfx ?_))
      go_ret
      exact ⟨ret_str (by rw [HT.out]; rfl), HS.ex⟩
    case neg =>
      have hn0 : 0 < n := by omega
      have hts : t.size + 1 ≤ K := by
        have h1 := congrArg ByteArray.size ht
        rw [ByteArray.size_append, dig_pos hn0, ByteArray.size_append] at h1
        have h2 : (⟨#[UInt8.ofNat (48 + n % 10)]⟩ : ByteArray).size = 1 := rfl
        omega
      rw [dig_pos hn0, ByteArray.append_assoc] at ht
      have hu8 : (UInt8.ofNat (48 + n % 10)).toNat = 48 + n % 10 := by rw [UInt8.toNat_ofNat']; omega
      generalize UInt8.ofNat (48 + n % 10) = B at *
      have q1 : (n : Int).tmod 10 = ((n % 10 : Nat) : Int) := by rw [Int.tmod_eq_emod_of_nonneg (by omega)]; omega
      have q2 : (n : Int).tdiv 10 = ((n / 10 : Nat) : Int) := by rw [Int.tdiv_eq_ediv_of_nonneg (by omega)]; omega
      have hm9 : n % 10 ≤ 9 := by omega
      have HT := hid ht
      clear ht hsz h0
      go_wp2_with (first
            | ((with_reducible (show wpList _ _ _ (Oper.mk (some 12) (Op.buildSlice _ _ _) _ _ _ _ :: _) _ _)); refine wpList_bslice1_st (o := ⟨some 12, .buildSlice _ _ _, _, _, _, _⟩) rfl _ _ rfl _ Try.underlying22 in_uint8 (by decide) (by decide) (x := .int .u8 _) rfl vcs rfx HS ?_; clear HS; intro w12 b12 hb12 HS; replace HS := HS.rowByt tk ⟨#[B]⟩ (by simp [byteCells, hu8]))
            | ((with_reducible (show wpList _ _ _ (Oper.mk (some 12) (Op.buildSlice _ _ _) _ _ _ _ :: _) _ _)); refine wpList_bslice1_st (o := ⟨some 12, .buildSlice _ _ _, _, _, _, _⟩) rfl _ _ rfl _ Try.underlying22 in_uint8 (by decide) (by decide) (x := _) rfl vcs rfx HS ?_; clear HS; intro w12 b12 hb12 HS; replace HS := HS.rowByt tk ⟨#[B]⟩ (by simp [byteCells, hu8]))
            | ((with_reducible (show wpList _ _ _ (Oper.mk (some 13) (Op.convert _ _ _) _ _ _ _ :: _) _ _)); refine wpList_back_st (o := ⟨some 13, .convert _ _ _, _, _, _, _⟩) rfl _ _ _ rfl _ Try.underlying22 Try.underlying5 Try.underlying9 rfl HS tk rfx ?_))
      go_roundw
      case rel => exact ⟨n / 10, _, by omega, HT.out, rfl, rfl, (HS.arr (by repeat (first | exact Arr.nil | (with_reducible exact take_all _) | (refine Arr.cons tk ?_) | (refine arr_skip ?_))))⟩
      case measure => simp [intOf]; omega

end Go.Proofs.Ytelkplponnfkpaa
