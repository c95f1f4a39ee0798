/- Words in strings: Word16, Word32, Get16, Get32 and the reference's. -/
import Derived.Test.YtihgekgkonacfaaRows
import Derived.Test.YtihgekgkonacfaaScal
import Derived.Laws.BytesArg
import Derived.IntWalk
namespace Go
open Go.RowKit
theorem i64_bits_or (a b : Nat) (ha : a < 4294967296) (hb : b < 4294967296) : bits .or .i64 (a : Int) (b : Int) = ((a ||| b : Nat) : Int) := by
  have hx : a ||| b < 2 ^ 32 := Nat.or_lt_two_pow (by omega) (by omega)
  have h1 : (BitVec.ofInt 64 (a : Int)).toNat = a := by
    rw [BitVec.ofInt_natCast, BitVec.toNat_ofNat]; exact Nat.mod_eq_of_lt (by omega)
  have h2 : (BitVec.ofInt 64 (b : Int)).toNat = b := by
    rw [BitVec.ofInt_natCast, BitVec.toNat_ofNat]; exact Nat.mod_eq_of_lt (by omega)
  show IntKind.i64.wrap ((BitVec.ofInt 64 (a : Int) ||| BitVec.ofInt 64 (b : Int)).toNat : Int) = _
  rw [BitVec.toNat_or, h1, h2, IntKind.wrap_i64]
  omega
theorem or_add (a b i : Nat) (h : b < 2 ^ i) : a * 2 ^ i ||| b = a * 2 ^ i + b := by
  rw [Nat.mul_comm, Nat.two_pow_add_eq_or_of_lt h]
/-- a shifted byte-wise 'or' is a sum. -/
theorem i64_or_add (a b i : Nat) (h : b < 2 ^ i) (ha : a * 2 ^ i < 4294967296) (hb : b < 4294967296) : bits .or .i64 ((a * 2 ^ i : Nat) : Int) (b : Int) = ((a * 2 ^ i + b : Nat) : Int) := by
  rw [i64_bits_or _ _ ha hb, or_add _ _ _ h]
@[go_sem] theorem wrap64_u8 (b : UInt8) : wrap64 (b.toNat : Int) = b.toNat := by have := b.toNat_lt; unfold wrap64; omega
theorem wrap64_id {n : Int} (h1 : -9223372036854775808 ≤ n) (h2 : n ≤ 9223372036854775807) : wrap64 n = n := by unfold wrap64; omega
/-- The byte number i of a string. -/
def bAt (s : ByteArray) (i : Nat) : Nat := if h : i < s.size then s[i].toNat else 0
theorem bAt_eq {s : ByteArray} {i : Nat} (h : i < s.size) : s[i].toNat = bAt s i := by simp [bAt, h]
theorem bAt_lt (s : ByteArray) (i : Nat) : bAt s i < 256 := by
  unfold bAt
  split
  · exact s[i].toNat_lt
  · omega
def word16 (v : Int) : ByteArray := if inB v 0 65535 then strOfNums [v / 256, v % 256] else ⟨#[]⟩
def word32 (v : Int) : ByteArray := if inB v 0 4294967295 then strOfNums [v / 16777216, v / 65536 % 256, v / 256 % 256, v % 256] else ⟨#[]⟩
theorem word16_size {v : Int} (h : inB v 0 65535 = true) : (word16 v).size = 2 := by simp [word16, h, strOfNums_size]
theorem word32_size {v : Int} (h : inB v 0 4294967295 = true) : (word32 v).size = 4 := by simp [word32, h, strOfNums_size]
theorem word16_le (v : Int) : (word16 v).size ≤ 2 := by
  unfold word16
  split
  · exact Nat.le_of_eq (strOfNums_size _)
  · exact Nat.zero_le _
theorem word32_le (v : Int) : (word32 v).size ≤ 4 := by
  unfold word32
  split
  · exact Nat.le_of_eq (strOfNums_size _)
  · exact Nat.zero_le _
def get16 (s : ByteArray) (i : Int) : Int := if 0 ≤ i ∧ i + 2 ≤ s.size then ((bAt s i.toNat * 256 + bAt s (i.toNat + 1) : Nat) : Int) else -1
def get32 (s : ByteArray) (i : Int) : Int := if 0 ≤ i ∧ i + 4 ≤ s.size then ((bAt s i.toNat * 16777216 + bAt s (i.toNat + 1) * 65536 + bAt s (i.toNat + 2) * 256 + bAt s (i.toNat + 3) : Nat) : Int) else -1
theorem get16_bd (s : ByteArray) (i : Int) : -1 ≤ get16 s i ∧ get16 s i ≤ 65535 := by
  unfold get16
  have h1 := bAt_lt s i.toNat
  have h2 := bAt_lt s (i.toNat + 1)
  split <;> omega
theorem get32_bd (s : ByteArray) (i : Int) : -1 ≤ get32 s i ∧ get32 s i ≤ 4294967295 := by
  unfold get32
  have h1 := bAt_lt s i.toNat
  have h2 := bAt_lt s (i.toNat + 1)
  have h3 := bAt_lt s (i.toNat + 2)
  have h4 := bAt_lt s (i.toNat + 3)
  split <;> omega
theorem or16 (a b : Nat) (ha : a < 256) (hb : b < 256) : bits .or .i64 (wrap64 ((a : Int) * 256)) (b : Int) = ((a * 256 + b : Nat) : Int) := by
  rw [wrap64_id (by omega) (by omega), show (a : Int) * 256 = ((a * 256 : Nat) : Int) from by omega]
  exact i64_or_add a b 8 (by omega) (by omega) (by omega)
theorem or32 (a b c d : Nat) (ha : a < 256) (hb : b < 256) (hc : c < 256) (hd : d < 256) :
    bits .or .i64 (bits .or .i64 (bits .or .i64 (wrap64 ((a : Int) * 16777216)) (wrap64 ((b : Int) * 65536))) (wrap64 ((c : Int) * 256))) (d : Int) = ((a * 16777216 + b * 65536 + c * 256 + d : Nat) : Int) := by
  rw [wrap64_id (n := (a : Int) * 16777216) (by omega) (by omega), wrap64_id (n := (b : Int) * 65536) (by omega) (by omega), wrap64_id (n := (c : Int) * 256) (by omega) (by omega)]
  rw [show (a : Int) * 16777216 = ((a * 2 ^ 24 : Nat) : Int) from by omega, show (b : Int) * 65536 = ((b * 65536 : Nat) : Int) from by omega, show (c : Int) * 256 = ((c * 256 : Nat) : Int) from by omega]
  rw [i64_or_add a (b * 65536) 24 (by omega) (by omega) (by omega)]
  rw [show a * 2 ^ 24 + b * 65536 = (a * 256 + b) * 2 ^ 16 from by omega, i64_or_add (a * 256 + b) (c * 256) 16 (by omega) (by omega) (by omega)]
  rw [show (a * 256 + b) * 2 ^ 16 + c * 256 = (a * 65536 + b * 256 + c) * 2 ^ 8 from by omega, i64_or_add _ d 8 (by omega) (by omega) (by omega)]
theorem add16 (a b : Nat) (ha : a < 256) (hb : b < 256) : wrap64 (wrap64 ((a : Int) * 256) + (b : Int)) = ((a * 256 + b : Nat) : Int) := by
  rw [wrap64_id (n := (a : Int) * 256) (by omega) (by omega), wrap64_id (by omega) (by omega)]
  rfl
theorem ret_str {a b : ByteArray} (h : a = b) : Ending.returned (.string a) = .returned (.string b) := by rw [h]
end Go
namespace Go.Proofs.Ytihgekgkonacfaa
open Go.RowKit
set_option linter.unusedVariables false

def withinB (s : ByteArray) (i n : Int) : Bool := decide (0 ≤ i) && decide (i ≤ s.size) && decide (n ≤ s.size - i)
theorem get32_16 (s : ByteArray) (k : Nat) (h : k + 4 ≤ s.size) : wrap64 (wrap64 (get16 s k * 65536) + get16 s ((k : Int) + 2)) = get32 s k := by
  have e1 : get16 s k = ((bAt s k * 256 + bAt s (k + 1) : Nat) : Int) := by rw [get16, if_pos (by omega), Int.toNat_natCast]
  have e2 : get16 s ((k : Int) + 2) = ((bAt s (k + 2) * 256 + bAt s (k + 3) : Nat) : Int) := by rw [get16, if_pos (by omega), show ((k : Int) + 2).toNat = k + 2 from by omega]
  have e3 : get32 s k = ((bAt s k * 16777216 + bAt s (k + 1) * 65536 + bAt s (k + 2) * 256 + bAt s (k + 3) : Nat) : Int) := by rw [get32, if_pos (by omega), Int.toNat_natCast]
  have h1 := bAt_lt s k
  have h2 := bAt_lt s (k + 1)
  have h3 := bAt_lt s (k + 2)
  have h4 := bAt_lt s (k + 3)
  rw [e1, e2, e3]
  generalize bAt s k = a at *
  generalize bAt s (k + 1) = b at *
  generalize bAt s (k + 2) = c at *
  generalize bAt s (k + 3) = d at *
  rw [wrap64_id (n := _ * 65536) (by omega) (by omega), wrap64_id (by omega) (by omega)]
  omega
end Go.Proofs.Ytihgekgkonacfaa

