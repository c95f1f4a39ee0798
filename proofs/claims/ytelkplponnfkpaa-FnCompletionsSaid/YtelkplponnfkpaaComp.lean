/- Contracts of EncodeCompletion and DecodeCompletion. -/
import Derived.Test.YtelkplponnfkpaaRows
import Derived.Test.YtelkplponnfkpaaStr
namespace Go.Proofs.Ytelkplponnfkpaa
open Go.RowKit
set_option linter.unusedVariables false

def encC (a b c d h p : Int) : ByteArray := word16 a ++ word16 b ++ word16 c ++ word16 d ++ word32 h ++ word32 p
theorem cok_in {a b c d h : Int} (k : completionOkB a b c d h = true) : inB a 0 65535 = true ∧ inB b 0 65535 = true ∧ inB c 0 65535 = true ∧ inB d 0 65535 = true ∧ inB h 0 4294967295 = true := by
  simp only [completionOkB, Bool.and_eq_true] at k
  obtain ⟨⟨⟨⟨h1, h2⟩, h3⟩, h4⟩, h5⟩ := k
  exact ⟨h1, h2, h3, h4, h5⟩

theorem completionOk_v {a b c d h : Int} {v : Bool} (hq : completionOkB a b c d h = v) (w : World) :
    Calls Try.prog 54 #[.agg #[.int .i64 a, .int .i64 b, .int .i64 c, .int .i64 d, .int .i64 h]] w fun e w' => e = .returned (.bool v) ∧ Ex w w' := hq ▸ completionOk_any a b c d h w

theorem completionOkS_v {a b c d h : Int} {v : Bool} (hq : completionOkB a b c d h = v) (w : World) :
    Calls Try.prog 73 #[.agg #[.int .i64 a, .int .i64 b, .int .i64 c, .int .i64 d, .int .i64 h]] w fun e w' => e = .returned (.bool v) ∧ Ex w w' := hq ▸ completionOkS_any a b c d h w

set_option maxHeartbeats 400000 in
theorem encode_f (a b c d h p : Int) (k : completionOkB a b c d h = false) (w : World) :
    Calls Try.prog 58 #[.agg #[.int .i64 a, .int .i64 b, .int .i64 c, .int .i64 d, .int .i64 h], .int .i64 p] w fun e w' => e = .returned (.string ⟨#[]⟩) ∧ Ex w w' := by
  have K := hid k
  clear k
  go_enter Try.func58, Try.ntmps58
  go_wp2_with (first
        | (go_at_call 54; (with_reducible refine (completionOk_v K.out _).mono ?_); rintro e w' ⟨rfl, hx⟩; obtain ⟨g, rfl⟩ := hx))
  go_ret
  exact ⟨rfl, (by repeat (first | exact Ex.refl _ | apply Ex.plus | apply Ex.alloc | apply Ex.drew))⟩

set_option maxHeartbeats 400000 in
theorem encode_n (a b c d h p : Int) (k : completionOkB a b c d h = true) (k2 : inB p 0 1 = false) (w : World) :
    Calls Try.prog 58 #[.agg #[.int .i64 a, .int .i64 b, .int .i64 c, .int .i64 d, .int .i64 h], .int .i64 p] w fun e w' => e = .returned (.string ⟨#[]⟩) ∧ Ex w w' := by
  have K := hid k
  clear k
  have K2 := hid k2
  clear k2
  go_enter Try.func58, Try.ntmps58
  go_wp2_with (first
        | (go_at_call 54; (with_reducible refine (completionOk_v K.out _).mono ?_); rintro e w' ⟨rfl, hx⟩; obtain ⟨g, rfl⟩ := hx)
        | (go_at_call 62; (with_reducible refine (between_v K2.out _).mono ?_); rintro e w' ⟨rfl, rfl⟩))
  go_ret
  exact ⟨rfl, (by repeat (first | exact Ex.refl _ | apply Ex.plus | apply Ex.alloc | apply Ex.drew))⟩

set_option maxHeartbeats 400000 in
theorem encode_t (a b c d h p : Int) (k : completionOkB a b c d h = true) (k2 : inB p 0 1 = true) (w : World) :
    Calls Try.prog 58 #[.agg #[.int .i64 a, .int .i64 b, .int .i64 c, .int .i64 d, .int .i64 h], .int .i64 p] w fun e w' => e = .returned (.string (encC a b c d h p)) ∧ Ex w w' := by
  obtain ⟨i0, i1, i2, i3, i4⟩ := cok_in k
  have z0 := word16_size i0
  have z1 := word16_size i1
  have z2 := word16_size i2
  have z3 := word16_size i3
  have z5 := word32_size i4
  have z6 := word32_size (v := p) (by obtain ⟨p1, p2⟩ := inB_iff.1 k2; exact inB_iff.2 (by omega))
  clear i0 i1 i2 i3 i4
  have K := hid k
  clear k
  have K2 := hid k2
  clear k2
  go_enter Try.func58, Try.ntmps58
  go_wp2_with (first
        | (go_at_call 54; (with_reducible refine (completionOk_v K.out _).mono ?_); rintro e w' ⟨rfl, hx⟩; obtain ⟨g, rfl⟩ := hx)
        | (go_at_call 62; (with_reducible refine (between_v K2.out _).mono ?_); rintro e w' ⟨rfl, rfl⟩))
  refine wp_region_ext (by kernel_rfl) (by kernel_rfl) ?_
  repeat (go_big_quiet_step ((first | (go_at_call 117; first | exact Calls.ext_of (word16_any _ _) | exact Calls.ext_of2 (word16_any _ _)) | (go_at_call 118; first | exact Calls.ext_of (word32_any _ _) | exact Calls.ext_of2 (word32_any _ _)))))
  refine wpQuiet_nil ?_
  intro g
  go_wp2
  go_ret
  exact ⟨rfl, (by repeat (first | exact Ex.refl _ | apply Ex.plus | apply Ex.alloc | apply Ex.drew))⟩

set_option maxHeartbeats 400000 in
theorem decode_l (s : ByteArray) (hs : s.size ≤ 9223372036854775807) (k : ((s.size : Int) == 16) = false) (k2 : ((s.size : Int) != 16) = true) (w : World) :
    Calls Try.prog 61 #[.string s] w fun e w' => e = .returned (.tuple #[.agg #[.int .i64 0, .int .i64 0, .int .i64 0, .int .i64 0, .int .i64 0], .int .i64 0, .bool false]) ∧ Ex w w' := by
  go_enter Try.func61, Try.ntmps61
  go_wp2
  refine bodyPost_ret (v := _) (by simp [results, Try.results61, go_sem] <;> rfl) rfl ⟨rfl, ?_⟩
  exact (by repeat (first | exact Ex.refl _ | apply Ex.plus | apply Ex.alloc | apply Ex.drew))

set_option maxHeartbeats 400000 in
theorem decode_f (s : ByteArray) (hs : s.size ≤ 9223372036854775807) (k : ((s.size : Int) == 16) = true) (k2 : ((s.size : Int) != 16) = false) (k3 : 1 < get32 s 12) (w : World) :
    Calls Try.prog 61 #[.string s] w fun e w' => e = .returned (.tuple #[.agg #[.int .i64 0, .int .i64 0, .int .i64 0, .int .i64 0, .int .i64 0], .int .i64 0, .bool false]) ∧ Ex w w' := by
  go_enter Try.func61, Try.ntmps61
  go_wp2_with (first
        | (go_at_call 121; (with_reducible refine (get16_any s hs _ (by omega) _).mono ?_); rintro e w' ⟨rfl, hx⟩; obtain ⟨g, rfl⟩ := hx)
        | (go_at_call 122; (with_reducible refine (get32_any s hs _ (by omega) _).mono ?_); rintro e w' ⟨rfl, hx⟩; obtain ⟨g, rfl⟩ := hx))
  refine bodyPost_ret (v := _) (by simp [results, Try.results61, go_sem] <;> rfl) rfl ⟨rfl, ?_⟩
  exact (by repeat (first | exact Ex.refl _ | apply Ex.plus | apply Ex.alloc | apply Ex.drew))

set_option maxHeartbeats 400000 in
theorem decode_t (s : ByteArray) (hs : s.size ≤ 9223372036854775807) (k : ((s.size : Int) == 16) = true) (k2 : ((s.size : Int) != 16) = false) (k3 : get32 s 12 ≤ 1) (w : World) :
    Calls Try.prog 61 #[.string s] w fun e w' => e = .returned (.tuple #[.agg #[.int .i64 (get16 s 0), .int .i64 (get16 s 2), .int .i64 (get16 s 4), .int .i64 (get16 s 6), .int .i64 (get32 s 8)], .int .i64 (get32 s 12), .bool true]) ∧ Ex w w' := by
  go_enter Try.func61, Try.ntmps61
  go_wp2_with (first
        | (go_at_call 121; (with_reducible refine (get16_any s hs _ (by omega) _).mono ?_); rintro e w' ⟨rfl, hx⟩; obtain ⟨g, rfl⟩ := hx)
        | (go_at_call 122; (with_reducible refine (get32_any s hs _ (by omega) _).mono ?_); rintro e w' ⟨rfl, hx⟩; obtain ⟨g, rfl⟩ := hx))
  refine bodyPost_ret (v := _) (by simp [results, Try.results61, go_sem] <;> rfl) rfl ⟨rfl, ?_⟩
  exact (by repeat (first | exact Ex.refl _ | apply Ex.plus | apply Ex.alloc | apply Ex.drew))

set_option maxHeartbeats 400000 in
theorem encodeS_f (a b c d h p : Int) (k : completionOkB a b c d h = false) (w : World) :
    Calls Try.prog 76 #[.agg #[.int .i64 a, .int .i64 b, .int .i64 c, .int .i64 d, .int .i64 h], .int .i64 p] w fun e w' => e = .returned (.string ⟨#[]⟩) ∧ Ex w w' := by
  have K := hid k
  clear k
  go_enter Try.func76, Try.ntmps76
  go_wp2_with (first
        | (go_at_call 73; (with_reducible refine (completionOkS_v K.out _).mono ?_); rintro e w' ⟨rfl, hx⟩; obtain ⟨g, rfl⟩ := hx))
  go_ret
  exact ⟨rfl, (by repeat (first | exact Ex.refl _ | apply Ex.plus | apply Ex.alloc | apply Ex.drew))⟩

set_option maxHeartbeats 400000 in
theorem encodeS_n (a b c d h p : Int) (k : completionOkB a b c d h = true) (k2 : inB p 0 1 = false) (w : World) :
    Calls Try.prog 76 #[.agg #[.int .i64 a, .int .i64 b, .int .i64 c, .int .i64 d, .int .i64 h], .int .i64 p] w fun e w' => e = .returned (.string ⟨#[]⟩) ∧ Ex w w' := by
  have K := hid k
  clear k
  have K2 := hid k2
  clear k2
  go_enter Try.func76, Try.ntmps76
  go_wp2_with (first
        | (go_at_call 73; (with_reducible refine (completionOkS_v K.out _).mono ?_); rintro e w' ⟨rfl, hx⟩; obtain ⟨g, rfl⟩ := hx)
        | (go_at_call 123; (with_reducible refine (l01In_v K2.out _).mono ?_); rintro e w' ⟨rfl, rfl⟩))
  go_ret
  exact ⟨rfl, (by repeat (first | exact Ex.refl _ | apply Ex.plus | apply Ex.alloc | apply Ex.drew))⟩

set_option maxHeartbeats 400000 in
theorem encodeS_t (a b c d h p : Int) (k : completionOkB a b c d h = true) (k2 : inB p 0 1 = true) (w : World) :
    Calls Try.prog 76 #[.agg #[.int .i64 a, .int .i64 b, .int .i64 c, .int .i64 d, .int .i64 h], .int .i64 p] w fun e w' => e = .returned (.string (encC a b c d h p)) ∧ Ex w w' := by
  obtain ⟨i0, i1, i2, i3, i4⟩ := cok_in k
  have z0 := word16_size i0
  have z1 := word16_size i1
  have z2 := word16_size i2
  have z3 := word16_size i3
  have z5 := word32_size i4
  have z6 := word32_size (v := p) (by obtain ⟨p1, p2⟩ := inB_iff.1 k2; exact inB_iff.2 (by omega))
  clear i0 i1 i2 i3 i4
  have K := hid k
  clear k
  have K2 := hid k2
  clear k2
  go_enter Try.func76, Try.ntmps76
  go_wp2_with (first
        | (go_at_call 73; (with_reducible refine (completionOkS_v K.out _).mono ?_); rintro e w' ⟨rfl, hx⟩; obtain ⟨g, rfl⟩ := hx)
        | (go_at_call 123; (with_reducible refine (l01In_v K2.out _).mono ?_); rintro e w' ⟨rfl, rfl⟩))
  refine wp_region_ext (by kernel_rfl) (by kernel_rfl) ?_
  repeat (go_big_quiet_step ((first | (go_at_call 129; first | exact Calls.ext_of (word16S_any _ _) | exact Calls.ext_of2 (word16S_any _ _)) | (go_at_call 130; first | exact Calls.ext_of (word32S_any _ _) | exact Calls.ext_of2 (word32S_any _ _)))))
  refine wpQuiet_nil ?_
  intro g
  go_wp2
  go_ret
  exact ⟨rfl, (by repeat (first | exact Ex.refl _ | apply Ex.plus | apply Ex.alloc | apply Ex.drew))⟩

set_option maxHeartbeats 400000 in
theorem decodeS_l (s : ByteArray) (hs : s.size ≤ 9223372036854775807) (k : ((s.size : Int) == 16) = false) (k2 : ((s.size : Int) != 16) = true) (w : World) :
    Calls Try.prog 67 #[.string s] w fun e w' => e = .returned (.tuple #[.agg #[.int .i64 0, .int .i64 0, .int .i64 0, .int .i64 0, .int .i64 0], .int .i64 0, .bool false]) ∧ Ex w w' := by
  go_enter Try.func67, Try.ntmps67
  go_wp2
  refine bodyPost_ret (v := _) (by simp [results, Try.results67, go_sem] <;> rfl) rfl ⟨rfl, ?_⟩
  exact (by repeat (first | exact Ex.refl _ | apply Ex.plus | apply Ex.alloc | apply Ex.drew))

set_option maxHeartbeats 400000 in
theorem decodeS_f (s : ByteArray) (hs : s.size ≤ 9223372036854775807) (k : ((s.size : Int) == 16) = true) (k2 : ((s.size : Int) != 16) = false) (k3 : 1 < get32 s 12) (w : World) :
    Calls Try.prog 67 #[.string s] w fun e w' => e = .returned (.tuple #[.agg #[.int .i64 0, .int .i64 0, .int .i64 0, .int .i64 0, .int .i64 0], .int .i64 0, .bool false]) ∧ Ex w w' := by
  go_enter Try.func67, Try.ntmps67
  go_wp2_with (first
        | (go_at_call 128; (with_reducible refine (get16S_any s hs _ (by omega) _).mono ?_); rintro e w' ⟨rfl, hx⟩; obtain ⟨g, rfl⟩ := hx)
        | (go_at_call 127; (with_reducible refine (get32S_any s hs _ (by omega) _).mono ?_); rintro e w' ⟨rfl, hx⟩; obtain ⟨g, rfl⟩ := hx))
  refine bodyPost_ret (v := _) (by simp [results, Try.results67, go_sem] <;> rfl) rfl ⟨rfl, ?_⟩
  exact (by repeat (first | exact Ex.refl _ | apply Ex.plus | apply Ex.alloc | apply Ex.drew))

set_option maxHeartbeats 400000 in
theorem decodeS_t (s : ByteArray) (hs : s.size ≤ 9223372036854775807) (k : ((s.size : Int) == 16) = true) (k2 : ((s.size : Int) != 16) = false) (k3 : get32 s 12 ≤ 1) (w : World) :
    Calls Try.prog 67 #[.string s] w fun e w' => e = .returned (.tuple #[.agg #[.int .i64 (get16 s 0), .int .i64 (get16 s 2), .int .i64 (get16 s 4), .int .i64 (get16 s 6), .int .i64 (get32 s 8)], .int .i64 (get32 s 12), .bool true]) ∧ Ex w w' := by
  go_enter Try.func67, Try.ntmps67
  go_wp2_with (first
        | (go_at_call 128; (with_reducible refine (get16S_any s hs _ (by omega) _).mono ?_); rintro e w' ⟨rfl, hx⟩; obtain ⟨g, rfl⟩ := hx)
        | (go_at_call 127; (with_reducible refine (get32S_any s hs _ (by omega) _).mono ?_); rintro e w' ⟨rfl, hx⟩; obtain ⟨g, rfl⟩ := hx))
  refine bodyPost_ret (v := _) (by simp [results, Try.results67, go_sem] <;> rfl) rfl ⟨rfl, ?_⟩
  exact (by repeat (first | exact Ex.refl _ | apply Ex.plus | apply Ex.alloc | apply Ex.drew))

end Go.Proofs.Ytelkplponnfkpaa

