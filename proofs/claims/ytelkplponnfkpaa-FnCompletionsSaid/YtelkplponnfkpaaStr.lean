/- Words in strings: Word16, Word32, Get16, Get32 and the reference's. -/
import Derived.Test.YtelkplponnfkpaaRows
import Derived.Test.YtelkplponnfkpaaScal
import Derived.Laws.BytesArg
import Derived.IntWalk
namespace Go
open Go.RowKit
theorem i64_bits_or (a b : Nat) (ha : a < 4294967296) (hb : b < 4294967296) : bits .or .i64 (a : Int) (b : Int) = ((a ||| b : Nat) : Int) := by
  have hx : a ||| b < 2 ^ 32 := Nat.or_lt_two_pow (by omega) (by omega)
  have h1 : (BitVec.ofInt 64 (a : Int)).toNat = a := by
    rw [BitVec.ofInt_natCast, BitVec.toNat_ofNat]; exact Nat.mod_eq_of_lt (by omega)
  have h2 : (BitVec.ofInt 64 (b : Int)).toNat = b := by
    rw [BitVec.ofInt_natCast, BitVec.toNat_ofNat]; exact Nat.mod_eq_of_lt (by omega)
  show IntKind.i64.wrap ((BitVec.ofInt 64 (a : Int) ||| BitVec.ofInt 64 (b : Int)).toNat : Int) = _
  rw [BitVec.toNat_or, h1, h2, IntKind.wrap_i64]
  omega
theorem or_add (a b i : Nat) (h : b < 2 ^ i) : a * 2 ^ i ||| b = a * 2 ^ i + b := by
  rw [Nat.mul_comm, Nat.two_pow_add_eq_or_of_lt h]
/-- a shifted byte-wise 'or' is a sum. -/
theorem i64_or_add (a b i : Nat) (h : b < 2 ^ i) (ha : a * 2 ^ i < 4294967296) (hb : b < 4294967296) : bits .or .i64 ((a * 2 ^ i : Nat) : Int) (b : Int) = ((a * 2 ^ i + b : Nat) : Int) := by
  rw [i64_bits_or _ _ ha hb, or_add _ _ _ h]
@[go_sem] theorem wrap64_u8 (b : UInt8) : wrap64 (b.toNat : Int) = b.toNat := by have := b.toNat_lt; unfold wrap64; omega
theorem wrap64_id {n : Int} (h1 : -9223372036854775808 ≤ n) (h2 : n ≤ 9223372036854775807) : wrap64 n = n := by unfold wrap64; omega
/-- The byte number i of a string. -/
def bAt (s : ByteArray) (i : Nat) : Nat := if h : i < s.size then s[i].toNat else 0
theorem bAt_eq {s : ByteArray} {i : Nat} (h : i < s.size) : s[i].toNat = bAt s i := by simp [bAt, h]
theorem bAt_lt (s : ByteArray) (i : Nat) : bAt s i < 256 := by
  unfold bAt
  split
  · exact s[i].toNat_lt
  · omega
def word16 (v : Int) : ByteArray := if inB v 0 65535 then strOfNums [v / 256, v % 256] else ⟨#[]⟩
def word32 (v : Int) : ByteArray := if inB v 0 4294967295 then strOfNums [v / 16777216, v / 65536 % 256, v / 256 % 256, v % 256] else ⟨#[]⟩
theorem word16_size {v : Int} (h : inB v 0 65535 = true) : (word16 v).size = 2 := by simp [word16, h, strOfNums_size]
theorem word32_size {v : Int} (h : inB v 0 4294967295 = true) : (word32 v).size = 4 := by simp [word32, h, strOfNums_size]
theorem word16_le (v : Int) : (word16 v).size ≤ 2 := by
  unfold word16
  split
  · exact Nat.le_of_eq (strOfNums_size _)
  · exact Nat.zero_le _
theorem word32_le (v : Int) : (word32 v).size ≤ 4 := by
  unfold word32
  split
  · exact Nat.le_of_eq (strOfNums_size _)
  · exact Nat.zero_le _
def get16 (s : ByteArray) (i : Int) : Int := if 0 ≤ i ∧ i + 2 ≤ s.size then ((bAt s i.toNat * 256 + bAt s (i.toNat + 1) : Nat) : Int) else -1
def get32 (s : ByteArray) (i : Int) : Int := if 0 ≤ i ∧ i + 4 ≤ s.size then ((bAt s i.toNat * 16777216 + bAt s (i.toNat + 1) * 65536 + bAt s (i.toNat + 2) * 256 + bAt s (i.toNat + 3) : Nat) : Int) else -1
theorem get16_bd (s : ByteArray) (i : Int) : -1 ≤ get16 s i ∧ get16 s i ≤ 65535 := by
  unfold get16
  have h1 := bAt_lt s i.toNat
  have h2 := bAt_lt s (i.toNat + 1)
  split <;> omega
theorem get32_bd (s : ByteArray) (i : Int) : -1 ≤ get32 s i ∧ get32 s i ≤ 4294967295 := by
  unfold get32
  have h1 := bAt_lt s i.toNat
  have h2 := bAt_lt s (i.toNat + 1)
  have h3 := bAt_lt s (i.toNat + 2)
  have h4 := bAt_lt s (i.toNat + 3)
  split <;> omega
theorem or16 (a b : Nat) (ha : a < 256) (hb : b < 256) : bits .or .i64 (wrap64 ((a : Int) * 256)) (b : Int) = ((a * 256 + b : Nat) : Int) := by
  rw [wrap64_id (by omega) (by omega), show (a : Int) * 256 = ((a * 256 : Nat) : Int) from by omega]
  exact i64_or_add a b 8 (by omega) (by omega) (by omega)
theorem or32 (a b c d : Nat) (ha : a < 256) (hb : b < 256) (hc : c < 256) (hd : d < 256) :
    bits .or .i64 (bits .or .i64 (bits .or .i64 (wrap64 ((a : Int) * 16777216)) (wrap64 ((b : Int) * 65536))) (wrap64 ((c : Int) * 256))) (d : Int) = ((a * 16777216 + b * 65536 + c * 256 + d : Nat) : Int) := by
  rw [wrap64_id (n := (a : Int) * 16777216) (by omega) (by omega), wrap64_id (n := (b : Int) * 65536) (by omega) (by omega), wrap64_id (n := (c : Int) * 256) (by omega) (by omega)]
  rw [show (a : Int) * 16777216 = ((a * 2 ^ 24 : Nat) : Int) from by omega, show (b : Int) * 65536 = ((b * 65536 : Nat) : Int) from by omega, show (c : Int) * 256 = ((c * 256 : Nat) : Int) from by omega]
  rw [i64_or_add a (b * 65536) 24 (by omega) (by omega) (by omega)]
  rw [show a * 2 ^ 24 + b * 65536 = (a * 256 + b) * 2 ^ 16 from by omega, i64_or_add (a * 256 + b) (c * 256) 16 (by omega) (by omega) (by omega)]
  rw [show (a * 256 + b) * 2 ^ 16 + c * 256 = (a * 65536 + b * 256 + c) * 2 ^ 8 from by omega, i64_or_add _ d 8 (by omega) (by omega) (by omega)]
theorem add16 (a b : Nat) (ha : a < 256) (hb : b < 256) : wrap64 (wrap64 ((a : Int) * 256) + (b : Int)) = ((a * 256 + b : Nat) : Int) := by
  rw [wrap64_id (n := (a : Int) * 256) (by omega) (by omega), wrap64_id (by omega) (by omega)]
  rfl
theorem ret_str {a b : ByteArray} (h : a = b) : Ending.returned (.string a) = .returned (.string b) := by rw [h]
end Go
namespace Go.Proofs.Ytelkplponnfkpaa
open Go.RowKit
set_option linter.unusedVariables false

set_option maxRecDepth 100000 in
set_option maxHeartbeats 400000 in
theorem word16_any (v : Int) (w : World) :
    Calls Try.prog 117 #[.int .i64 v] w fun e w' => e = .returned (.string (word16 v)) ∧ Ex w w' := by
  cases h : inB v 0 65535
  · have H := hid h
    clear h
    go_enter Try.func117, Try.ntmps117
    go_wp2_with (first
      | (go_at_call 62; (with_reducible refine (between_v H.out _).mono ?_); rintro e w' ⟨rfl, rfl⟩))
    go_ret
    exact ⟨ret_str (by simp [word16, H.out]), Ex.refl _⟩
  · obtain ⟨b1, b2⟩ := inB_iff.1 h
    have hcv := fun dst hd => run_convert_bytes_arg (P := Try.prog) (w.alloc (.cells #[.int .u8 (v / 256), .int .u8 (v % 256)] 5)) 22 5 Try.underlying22 Try.underlying5 w.heap.size 0 2 2 [v / 256, v % 256] rfl (by intro i hi; match i with | 0 => simp | 1 => simp) dst hd
    replace hcv := hcv 9 Try.underlying9
    have H := hid h
    clear h
    go_enter Try.func117, Try.ntmps117
    go_wp2_with (first
      | (go_at_call 62; (with_reducible refine (between_v H.out _).mono ?_); rintro e w' ⟨rfl, rfl⟩))
    go_ret
    exact ⟨ret_str (by simp [word16, H.out]), (Ex.refl _).alloc _⟩

set_option maxRecDepth 100000 in
set_option maxHeartbeats 400000 in
theorem word16S_any (v : Int) (w : World) :
    Calls Try.prog 129 #[.int .i64 v] w fun e w' => e = .returned (.string (word16 v)) ∧ Ex w w' := by
  cases h : inB v 0 65535
  · have H := hid h
    clear h
    go_enter Try.func129, Try.ntmps129
    go_wp2_with (first
      | (go_at_call 123; (with_reducible refine (l01In_v H.out _).mono ?_); rintro e w' ⟨rfl, rfl⟩))
    go_ret
    exact ⟨ret_str (by simp [word16, H.out]), Ex.refl _⟩
  · obtain ⟨b1, b2⟩ := inB_iff.1 h
    have hcv := fun dst hd => run_convert_bytes_arg (P := Try.prog) (w.alloc (.cells #[.int .u8 (v / 256), .int .u8 (v % 256)] 5)) 22 5 Try.underlying22 Try.underlying5 w.heap.size 0 2 2 [v / 256, v % 256] rfl (by intro i hi; match i with | 0 => simp | 1 => simp) dst hd
    replace hcv := hcv 9 Try.underlying9
    have H := hid h
    clear h
    go_enter Try.func129, Try.ntmps129
    go_wp2_with (first
      | (go_at_call 123; (with_reducible refine (l01In_v H.out _).mono ?_); rintro e w' ⟨rfl, rfl⟩))
    go_ret
    exact ⟨ret_str (by simp [word16, H.out]), (Ex.refl _).alloc _⟩

set_option maxRecDepth 100000 in
set_option maxHeartbeats 400000 in
theorem word32_any (v : Int) (w : World) :
    Calls Try.prog 118 #[.int .i64 v] w fun e w' => e = .returned (.string (word32 v)) ∧ Ex w w' := by
  cases h : inB v 0 4294967295
  · have H := hid h
    clear h
    go_enter Try.func118, Try.ntmps118
    go_wp2_with (first
      | (go_at_call 62; (with_reducible refine (between_v H.out _).mono ?_); rintro e w' ⟨rfl, rfl⟩))
    go_ret
    exact ⟨ret_str (by simp [word32, H.out]), Ex.refl _⟩
  · obtain ⟨b1, b2⟩ := inB_iff.1 h
    have hcv := run_convert_bytes_arg (P := Try.prog) (w.alloc (.cells #[.int .u8 (v / 16777216), .int .u8 (v / 65536 % 256), .int .u8 (v / 256 % 256), .int .u8 (v % 256)] 5)) 22 5 Try.underlying22 Try.underlying5 w.heap.size 0 4 4 [v / 16777216, v / 65536 % 256, v / 256 % 256, v % 256] rfl (by intro i hi; match i with | 0 => simp | 1 => simp | 2 => simp | 3 => simp) 9 Try.underlying9
    have H := hid h
    clear h
    go_enter Try.func118, Try.ntmps118
    go_wp2_with (first
      | (go_at_call 62; (with_reducible refine (between_v H.out _).mono ?_); rintro e w' ⟨rfl, rfl⟩))
    go_ret
    exact ⟨ret_str (by simp [word32, H.out]), (Ex.refl _).alloc _⟩

set_option maxRecDepth 100000 in
set_option maxHeartbeats 400000 in
theorem word32S_any (v : Int) (w : World) :
    Calls Try.prog 130 #[.int .i64 v] w fun e w' => e = .returned (.string (word32 v)) ∧ Ex w w' := by
  cases h : inB v 0 4294967295
  · have H := hid h
    clear h
    go_enter Try.func130, Try.ntmps130
    go_wp2_with (first
      | (go_at_call 123; (with_reducible refine (l01In_v H.out _).mono ?_); rintro e w' ⟨rfl, rfl⟩))
    go_ret
    exact ⟨ret_str (by simp [word32, H.out]), Ex.refl _⟩
  · obtain ⟨b1, b2⟩ := inB_iff.1 h
    have hcv := run_convert_bytes_arg (P := Try.prog) (w.alloc (.cells #[.int .u8 (v / 16777216), .int .u8 (v / 65536 % 256), .int .u8 (v / 256 % 256), .int .u8 (v % 256)] 5)) 22 5 Try.underlying22 Try.underlying5 w.heap.size 0 4 4 [v / 16777216, v / 65536 % 256, v / 256 % 256, v % 256] rfl (by intro i hi; match i with | 0 => simp | 1 => simp | 2 => simp | 3 => simp) 9 Try.underlying9
    have H := hid h
    clear h
    go_enter Try.func130, Try.ntmps130
    go_wp2_with (first
      | (go_at_call 123; (with_reducible refine (l01In_v H.out _).mono ?_); rintro e w' ⟨rfl, rfl⟩))
    go_ret
    exact ⟨ret_str (by simp [word32, H.out]), (Ex.refl _).alloc _⟩

def withinB (s : ByteArray) (i n : Int) : Bool := decide (0 ≤ i) && decide (i ≤ s.size) && decide (n ≤ s.size - i)
set_option maxHeartbeats 400000 in
theorem within_any (s : ByteArray) (hs : s.size ≤ 9223372036854775807) (i : Int) (n : Int) (hi : -9223372036854775808 ≤ i ∧ i ≤ 9223372036854775807) (hn : -9223372036854775808 ≤ n ∧ n ≤ 9223372036854775807) (w : World) :
    Calls Try.prog 153 #[.string s, .int .i64 i, .int .i64 n] w fun e w' => e = .returned (.bool (withinB s i n)) ∧ w = w' := by
  go_enter Try.func153, Try.ntmps153
  go_wp2
  all_goals go_ret
  all_goals exact ⟨ret_bool (by rw [Bool.eq_iff_iff]; simp [withinB]; omega), rfl⟩

theorem within_v (s : ByteArray) (hs : s.size ≤ 9223372036854775807) (i n : Int) (hi : -9223372036854775808 ≤ i ∧ i ≤ 9223372036854775807) (hn : -9223372036854775808 ≤ n ∧ n ≤ 9223372036854775807) {v : Bool} (h : withinB s i n = v) (w : World) :
    Calls Try.prog 153 #[.string s, .int .i64 i, .int .i64 n] w fun e w' => e = .returned (.bool v) ∧ w = w' := h ▸ within_any s hs i n hi hn w

set_option maxRecDepth 100000 in
set_option maxHeartbeats 1000000 in
theorem get16_any (s : ByteArray) (hs : s.size ≤ 9223372036854775807) (i : Int) (hi : -9223372036854775808 ≤ i ∧ i ≤ 9223372036854775807) (w : World) :
    Calls Try.prog 121 #[.string s, .int .i64 i] w fun e w' => e = .returned (.int .i64 (get16 s i)) ∧ Ex w w' := by
  by_cases h : 0 ≤ i ∧ i + 2 ≤ s.size
  · obtain ⟨h1, h2⟩ := h
    have hv : get16 s i = _ := if_pos ⟨h1, h2⟩
    obtain ⟨k, rfl⟩ := Int.eq_ofNat_of_zero_le h1
    rw [Int.toNat_natCast] at hv
    replace hv := hid hv
    have HW := hid (show withinB s (k : Int) 2 = true from by simp [withinB]; omega)
    have a0 : k < s.size := by omega
    have a1 : k + 1 < s.size := by omega
    have p1 : (0 : Int) ≤ k + 1 := by omega
    have q1 : ((k : Int) + 1).toNat = k + 1 := by omega
    have r1 : (k : Int) + 1 < s.size := by omega
    go_enter Try.func121, Try.ntmps121
    go_wp2
    refine wp_region_ext (by kernel_rfl) (by kernel_rfl) ?_
    repeat (go_big_quiet_step (fail))
    refine wpQuiet_nil ?_
    intro g
    go_wp2
    go_ret
    refine ⟨ret_int ?_, (Ex.refl _).plus _⟩
    rw [hv.out]
    clear hv
    rw [bAt_eq a0, bAt_eq a1]
    exact or16 _ _ (bAt_lt _ _) (bAt_lt _ _)
  · have hv : get16 s i = -1 := if_neg h
    replace hv := hid hv
    have HW := hid (show withinB s i 2 = false from by simp [withinB]; omega)
    have h2 : i < 0 ∨ 0 ≤ i ∧ s.size - 2 < i := by omega
    clear h
    rcases h2 with h2 | ⟨h2, h3⟩
    all_goals
      go_enter Try.func121, Try.ntmps121
      go_wp2
      go_ret
      exact ⟨ret_int hv.out.symm, Ex.refl _⟩

set_option maxRecDepth 100000 in
set_option maxHeartbeats 1000000 in
theorem get16S_any (s : ByteArray) (hs : s.size ≤ 9223372036854775807) (i : Int) (hi : -9223372036854775808 ≤ i ∧ i ≤ 9223372036854775807) (w : World) :
    Calls Try.prog 128 #[.string s, .int .i64 i] w fun e w' => e = .returned (.int .i64 (get16 s i)) ∧ Ex w w' := by
  by_cases h : 0 ≤ i ∧ i + 2 ≤ s.size
  · obtain ⟨h1, h2⟩ := h
    have hv : get16 s i = _ := if_pos ⟨h1, h2⟩
    obtain ⟨k, rfl⟩ := Int.eq_ofNat_of_zero_le h1
    rw [Int.toNat_natCast] at hv
    replace hv := hid hv
    have HW := hid (show withinB s (k : Int) 2 = true from by simp [withinB]; omega)
    have a0 : k < s.size := by omega
    have a1 : k + 1 < s.size := by omega
    have p1 : (0 : Int) ≤ k + 1 := by omega
    have q1 : ((k : Int) + 1).toNat = k + 1 := by omega
    have r1 : (k : Int) + 1 < s.size := by omega
    go_enter Try.func128, Try.ntmps128
    go_wp2_with (first
      | (go_at_call 153; (with_reducible refine (within_v s hs _ 2 (by omega) (by omega) HW.out _).mono ?_); rintro e w' ⟨rfl, rfl⟩))
    refine wp_region_ext (by kernel_rfl) (by kernel_rfl) ?_
    repeat (go_big_quiet_step (fail))
    refine wpQuiet_nil ?_
    intro g
    go_wp2
    go_ret
    refine ⟨ret_int ?_, (Ex.refl _).plus _⟩
    rw [hv.out]
    clear hv
    rw [bAt_eq a0, bAt_eq a1]
    exact add16 _ _ (bAt_lt _ _) (bAt_lt _ _)
  · have hv : get16 s i = -1 := if_neg h
    replace hv := hid hv
    have HW := hid (show withinB s i 2 = false from by simp [withinB]; omega)
    have h2 : i < 0 ∨ 0 ≤ i ∧ s.size - 2 < i := by omega
    clear h
    rcases h2 with h2 | ⟨h2, h3⟩
    all_goals
      go_enter Try.func128, Try.ntmps128
      go_wp2_with (first
      | (go_at_call 153; (with_reducible refine (within_v s hs _ 2 (by omega) (by omega) HW.out _).mono ?_); rintro e w' ⟨rfl, rfl⟩))
      go_ret
      exact ⟨ret_int hv.out.symm, Ex.refl _⟩

set_option maxRecDepth 100000 in
set_option maxHeartbeats 1000000 in
theorem get32_any (s : ByteArray) (hs : s.size ≤ 9223372036854775807) (i : Int) (hi : -9223372036854775808 ≤ i ∧ i ≤ 9223372036854775807) (w : World) :
    Calls Try.prog 122 #[.string s, .int .i64 i] w fun e w' => e = .returned (.int .i64 (get32 s i)) ∧ Ex w w' := by
  by_cases h : 0 ≤ i ∧ i + 4 ≤ s.size
  · obtain ⟨h1, h2⟩ := h
    have hv : get32 s i = _ := if_pos ⟨h1, h2⟩
    obtain ⟨k, rfl⟩ := Int.eq_ofNat_of_zero_le h1
    rw [Int.toNat_natCast] at hv
    replace hv := hid hv
    have HW := hid (show withinB s (k : Int) 4 = true from by simp [withinB]; omega)
    have a0 : k < s.size := by omega
    have a1 : k + 1 < s.size := by omega
    have p1 : (0 : Int) ≤ k + 1 := by omega
    have q1 : ((k : Int) + 1).toNat = k + 1 := by omega
    have r1 : (k : Int) + 1 < s.size := by omega
    have a2 : k + 2 < s.size := by omega
    have p2 : (0 : Int) ≤ k + 2 := by omega
    have q2 : ((k : Int) + 2).toNat = k + 2 := by omega
    have r2 : (k : Int) + 2 < s.size := by omega
    have a3 : k + 3 < s.size := by omega
    have p3 : (0 : Int) ≤ k + 3 := by omega
    have q3 : ((k : Int) + 3).toNat = k + 3 := by omega
    have r3 : (k : Int) + 3 < s.size := by omega
    go_enter Try.func122, Try.ntmps122
    go_wp2
    refine wp_region_ext (by kernel_rfl) (by kernel_rfl) ?_
    repeat (go_big_quiet_step (fail))
    refine wpQuiet_nil ?_
    intro g
    go_wp2
    go_ret
    refine ⟨ret_int ?_, (Ex.refl _).plus _⟩
    rw [hv.out]
    clear hv
    rw [bAt_eq a0, bAt_eq a1, bAt_eq a2, bAt_eq a3]
    exact or32 _ _ _ _ (bAt_lt _ _) (bAt_lt _ _) (bAt_lt _ _) (bAt_lt _ _)
  · have hv : get32 s i = -1 := if_neg h
    replace hv := hid hv
    have HW := hid (show withinB s i 4 = false from by simp [withinB]; omega)
    have h2 : i < 0 ∨ 0 ≤ i ∧ s.size - 4 < i := by omega
    clear h
    rcases h2 with h2 | ⟨h2, h3⟩
    all_goals
      go_enter Try.func122, Try.ntmps122
      go_wp2
      go_ret
      exact ⟨ret_int hv.out.symm, Ex.refl _⟩

theorem get32_16 (s : ByteArray) (k : Nat) (h : k + 4 ≤ s.size) : wrap64 (wrap64 (get16 s k * 65536) + get16 s ((k : Int) + 2)) = get32 s k := by
  have e1 : get16 s k = ((bAt s k * 256 + bAt s (k + 1) : Nat) : Int) := by rw [get16, if_pos (by omega), Int.toNat_natCast]
  have e2 : get16 s ((k : Int) + 2) = ((bAt s (k + 2) * 256 + bAt s (k + 3) : Nat) : Int) := by rw [get16, if_pos (by omega), show ((k : Int) + 2).toNat = k + 2 from by omega]
  have e3 : get32 s k = ((bAt s k * 16777216 + bAt s (k + 1) * 65536 + bAt s (k + 2) * 256 + bAt s (k + 3) : Nat) : Int) := by rw [get32, if_pos (by omega), Int.toNat_natCast]
  have h1 := bAt_lt s k
  have h2 := bAt_lt s (k + 1)
  have h3 := bAt_lt s (k + 2)
  have h4 := bAt_lt s (k + 3)
  rw [e1, e2, e3]
  generalize bAt s k = a at *
  generalize bAt s (k + 1) = b at *
  generalize bAt s (k + 2) = c at *
  generalize bAt s (k + 3) = d at *
  rw [wrap64_id (n := _ * 65536) (by omega) (by omega), wrap64_id (by omega) (by omega)]
  omega
set_option maxRecDepth 100000 in
set_option maxHeartbeats 1000000 in
theorem get32S_any (s : ByteArray) (hs : s.size ≤ 9223372036854775807) (i : Int) (hi : -9223372036854775808 ≤ i ∧ i ≤ 9223372036854775807) (w : World) :
    Calls Try.prog 127 #[.string s, .int .i64 i] w fun e w' => e = .returned (.int .i64 (get32 s i)) ∧ Ex w w' := by
  by_cases h : 0 ≤ i ∧ i + 4 ≤ s.size
  · obtain ⟨h1, h2⟩ := h
    obtain ⟨k, rfl⟩ := Int.eq_ofNat_of_zero_le h1
    have hv := hid (get32_16 s k (by omega))
    have HW := hid (show withinB s (k : Int) 4 = true from by simp [withinB]; omega)
    go_enter Try.func127, Try.ntmps127
    go_wp2_with (first
      | (go_at_call 153; (with_reducible refine (within_v s hs _ 4 (by omega) (by omega) HW.out _).mono ?_); rintro e w' ⟨rfl, rfl⟩)
      | (go_at_call 128; (with_reducible refine (get16S_any s hs _ (by omega) _).mono ?_); rintro e w' ⟨rfl, hx⟩; obtain ⟨g, rfl⟩ := hx))
    go_ret
    exact ⟨ret_int hv.out, by repeat (first | exact Ex.refl _ | apply Ex.plus)⟩
  · have hv : get32 s i = -1 := if_neg h
    replace hv := hid hv
    have HW := hid (show withinB s i 4 = false from by simp [withinB]; omega)
    clear h
    go_enter Try.func127, Try.ntmps127
    go_wp2_with (first
      | (go_at_call 153; (with_reducible refine (within_v s hs _ 4 (by omega) (by omega) HW.out _).mono ?_); rintro e w' ⟨rfl, rfl⟩))
    go_ret
    exact ⟨ret_int hv.out.symm, Ex.refl _⟩

end Go.Proofs.Ytelkplponnfkpaa

