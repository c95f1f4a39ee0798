/- Accepts of both; the law helpers over a Packet; the walk of FnExactAccepts. -/
import Derived.Test.YtihgekgkonacfaaRows
import Derived.Test.YtihgekgkonacfaaFiltF
import Derived.Test.YtihgekgkonacfaaFiltL
import Derived.Test.YtihgekgkonacfaaReg
namespace Go.Proofs.Ytihgekgkonacfaa
open Go.RowKit
set_option linter.unusedVariables false

set_option maxHeartbeats 1000000 in
theorem toSegment_any (d8 d9 d10 d11 d12 d13 d14 : Int) (bd : ByteArray) (w : World) :
    Calls Try.prog 53 #[.agg #[.int .i64 d8, .int .i64 d9, .int .i64 d10, .int .i64 d11, .int .i64 d12, .int .i64 d13, .int .i64 d14, .string bd]] w fun e w' => e = .returned (.agg #[.int .i64 d8, .int .i64 d9, .int .i64 d10, .int .i64 d11, .int .i64 d12, .int .i64 d13, .int .i64 d14, .string bd]) ∧ Ex w w' := by
  go_enter Try.func53, Try.ntmps53
  go_wp2
  refine bodyPost_ret (v := .agg #[.int .i64 d8, .int .i64 d9, .int .i64 d10, .int .i64 d11, .int .i64 d12, .int .i64 d13, .int .i64 d14, .string bd]) (by simp [results, Try.results53, go_sem]) rfl ⟨rfl, ?_⟩
  exact (by repeat (first | exact Ex.refl _ | apply Ex.plus_add | apply Ex.plus_drew | apply Ex.plus | apply Ex.alloc | apply Ex.drew))

set_option maxHeartbeats 1000000 in
theorem szSegment_le (d8 d9 d10 d11 d12 d13 d14 : Int) (bd : ByteArray) (l : Int) (w : World) (h2 : bd.size ≤ maxLen) (hl : l ≤ 1048576) (h : (bd.size : Int) ≤ l) :
    Calls Try.prog 50 #[.agg #[.int .i64 d8, .int .i64 d9, .int .i64 d10, .int .i64 d11, .int .i64 d12, .int .i64 d13, .int .i64 d14, .string bd], .int .i64 l] w fun e w' => e = .returned (.int .i64 (l - bd.size)) ∧ Ex w w' := by
  have h3 := h2
  unfold maxLen at h3
  go_enter Try.func50, Try.ntmps50
  go_wp2
  go_ret
  exact ⟨rfl, (by repeat (first | exact Ex.refl _ | apply Ex.plus_add | apply Ex.plus_drew | apply Ex.plus | apply Ex.alloc | apply Ex.drew))⟩

set_option maxHeartbeats 1000000 in
theorem szSegment_gt (d8 d9 d10 d11 d12 d13 d14 : Int) (bd : ByteArray) (l : Int) (w : World) (h2 : bd.size ≤ maxLen) (h0 : 0 ≤ l) (hl : l ≤ 1048576) (h : l < (bd.size : Int)) :
    Calls Try.prog 50 #[.agg #[.int .i64 d8, .int .i64 d9, .int .i64 d10, .int .i64 d11, .int .i64 d12, .int .i64 d13, .int .i64 d14, .string bd], .int .i64 l] w fun e w' => e = .returned (.int .i64 (-1)) ∧ Ex w w' := by
  have h3 := h2
  unfold maxLen at h3
  go_enter Try.func50, Try.ntmps50
  go_wp2
  go_ret
  exact ⟨rfl, (by repeat (first | exact Ex.refl _ | apply Ex.plus_add | apply Ex.plus_drew | apply Ex.plus | apply Ex.alloc | apply Ex.drew))⟩

set_option maxHeartbeats 1000000 in
theorem toPacket_any (d0 d1 d2 d3 d4 d5 d6 d7 d8 d9 d10 d11 d12 d13 d14 : Int) (bd : ByteArray) (w : World) :
    Calls Try.prog 34 #[.agg #[.int .i64 d0, .int .i64 d1, .int .i64 d2, .int .i64 d3, .int .i64 d4, .int .i64 d5, .int .i64 d6, .int .i64 d7, .int .i64 d8, .int .i64 d9, .int .i64 d10, .int .i64 d11, .int .i64 d12, .int .i64 d13, .int .i64 d14, .string bd]] w fun e w' => e = .returned (.agg #[.int .i64 d0, .int .i64 d1, .int .i64 d2, .int .i64 d3, .int .i64 d4, .int .i64 d5, .int .i64 d6, .int .i64 d7, .int .i64 d8, .int .i64 d9, .int .i64 d10, .int .i64 d11, .int .i64 d12, .int .i64 d13, .int .i64 d14, .string bd]) ∧ Ex w w' := by
  go_enter Try.func34, Try.ntmps34
  go_wp2_with (first
      | (go_at_call 53; (with_reducible refine (toSegment_any d8 d9 d10 d11 d12 d13 d14 bd _).mono ?_); rintro e w' ⟨rfl, hx⟩; obtain ⟨g, rfl⟩ := hx))
  refine bodyPost_ret (v := .agg #[.int .i64 d0, .int .i64 d1, .int .i64 d2, .int .i64 d3, .int .i64 d4, .int .i64 d5, .int .i64 d6, .int .i64 d7, .int .i64 d8, .int .i64 d9, .int .i64 d10, .int .i64 d11, .int .i64 d12, .int .i64 d13, .int .i64 d14, .string bd]) (by simp [results, Try.results34, go_sem]) rfl ⟨rfl, ?_⟩
  exact (by repeat (first | exact Ex.refl _ | apply Ex.plus_add | apply Ex.plus_drew | apply Ex.plus | apply Ex.alloc | apply Ex.drew))

set_option maxHeartbeats 1000000 in
theorem szPacket_le (d0 d1 d2 d3 d4 d5 d6 d7 d8 d9 d10 d11 d12 d13 d14 : Int) (bd : ByteArray) (l : Int) (w : World) (h2 : bd.size ≤ maxLen) (hl : l ≤ 1048576) (h : (bd.size : Int) ≤ l) :
    Calls Try.prog 31 #[.agg #[.int .i64 d0, .int .i64 d1, .int .i64 d2, .int .i64 d3, .int .i64 d4, .int .i64 d5, .int .i64 d6, .int .i64 d7, .int .i64 d8, .int .i64 d9, .int .i64 d10, .int .i64 d11, .int .i64 d12, .int .i64 d13, .int .i64 d14, .string bd], .int .i64 l] w fun e w' => e = .returned (.int .i64 (l - bd.size)) ∧ Ex w w' := by
  have h3 := h2
  unfold maxLen at h3
  go_enter Try.func31, Try.ntmps31
  go_wp2_with (first
      | (go_at_call 50; (with_reducible refine (szSegment_le d8 d9 d10 d11 d12 d13 d14 bd l _ h2 hl h).mono ?_); rintro e w' ⟨rfl, hx⟩; obtain ⟨g, rfl⟩ := hx))
  go_ret
  exact ⟨rfl, (by repeat (first | exact Ex.refl _ | apply Ex.plus_add | apply Ex.plus_drew | apply Ex.plus | apply Ex.alloc | apply Ex.drew))⟩

set_option maxHeartbeats 1000000 in
theorem szPacket_gt (d0 d1 d2 d3 d4 d5 d6 d7 d8 d9 d10 d11 d12 d13 d14 : Int) (bd : ByteArray) (l : Int) (w : World) (h2 : bd.size ≤ maxLen) (h0 : 0 ≤ l) (hl : l ≤ 1048576) (h : l < (bd.size : Int)) :
    Calls Try.prog 31 #[.agg #[.int .i64 d0, .int .i64 d1, .int .i64 d2, .int .i64 d3, .int .i64 d4, .int .i64 d5, .int .i64 d6, .int .i64 d7, .int .i64 d8, .int .i64 d9, .int .i64 d10, .int .i64 d11, .int .i64 d12, .int .i64 d13, .int .i64 d14, .string bd], .int .i64 l] w fun e w' => e = .returned (.int .i64 (-1)) ∧ Ex w w' := by
  have h3 := h2
  unfold maxLen at h3
  go_enter Try.func31, Try.ntmps31
  go_wp2_with (first
      | (go_at_call 50; (with_reducible refine (szSegment_gt d8 d9 d10 d11 d12 d13 d14 bd l _ h2 h0 hl h).mono ?_); rintro e w' ⟨rfl, hx⟩; obtain ⟨g, rfl⟩ := hx))
  go_ret
  exact ⟨rfl, (by repeat (first | exact Ex.refl _ | apply Ex.plus_add | apply Ex.plus_drew | apply Ex.plus | apply Ex.alloc | apply Ex.drew))⟩

def acceptsB (mac : Int) (pr : Bool) (xs : List Int) (d v : Int) : Bool := filterOkB mac xs && (d == mac || d == 281474976710655 || pr) && (v == -1 || hasB xs v)

set_option maxRecDepth 100000 in
set_option maxHeartbeats 2000000 in
theorem accepts_any (mac : Int) (pr : Bool) (v : Value) (xs : List Int) (d0 d1 d2 d3 d4 d5 d6 d7 d8 d9 d10 d11 d12 d13 d14 : Int) (bd : ByteArray) (w : World) (k1 : Holds w xs [v]) :
    Calls Try.prog 10 #[.agg #[.int .i64 mac, .bool pr, v], .agg #[.int .i64 d0, .int .i64 d1, .int .i64 d2, .int .i64 d3, .int .i64 d4, .int .i64 d5, .int .i64 d6, .int .i64 d7, .int .i64 d8, .int .i64 d9, .int .i64 d10, .int .i64 d11, .int .i64 d12, .int .i64 d13, .int .i64 d14, .string bd]] w fun e w' => e = .returned (.bool (acceptsB mac pr xs d0 d2)) ∧ Ex w w' := by
  obtain ⟨a, cap, hv, h1, h2, _, h4⟩ := k1.ints
  simp only [List.cons.injEq, and_true] at hv
  subst hv

  unfold acceptsB
  rcases hq : filterOkB mac xs with _ | _
  case false =>
    go_enter Try.func10, Try.ntmps10
    go_wp2_with (first
          | (go_at_call 12; (with_reducible refine (filterOk_v mac _ _ xs _ (k1.ex (by repeat (first | exact Ex.refl _ | apply Ex.plus_add | apply Ex.plus_drew | apply Ex.plus | apply Ex.alloc | apply Ex.drew))) hq).mono ?_); rintro e w' ⟨rfl, hx⟩; obtain ⟨g, rfl⟩ := hx)
          | (go_at_call 27; (with_reducible refine (hasInt_v _ xs _ _ (k1.ex (by repeat (first | exact Ex.refl _ | apply Ex.plus_add | apply Ex.plus_drew | apply Ex.plus | apply Ex.alloc | apply Ex.drew))) rfl).mono ?_); rintro e w' ⟨rfl, rfl⟩))
    go_ret
    exact ⟨rfl, (by repeat (first | exact Ex.refl _ | apply Ex.plus_add | apply Ex.plus_drew | apply Ex.plus | apply Ex.alloc | apply Ex.drew))⟩
  case true =>
    have key : ∀ a1 a2, (d0 == mac) = a1 → (d0 == 281474976710655) = a2 → (a1 || a2 || pr) = true ∨ (a1 = false ∧ a2 = false ∧ pr = false) := by
      intro a1 a2 _ _; cases a1 <;> cases a2 <;> cases pr <;> simp
    clear key
    rcases h5 : (d0 == mac) with _ | _ <;> rcases h6 : (d0 == 281474976710655) with _ | _ <;> cases pr <;> rcases h7 : (d2 == -1) with _ | _
    all_goals
      go_enter Try.func10, Try.ntmps10
      go_wp2_with (first
            | (go_at_call 12; (with_reducible refine (filterOk_v mac _ _ xs _ (k1.ex (by repeat (first | exact Ex.refl _ | apply Ex.plus_add | apply Ex.plus_drew | apply Ex.plus | apply Ex.alloc | apply Ex.drew))) hq).mono ?_); rintro e w' ⟨rfl, hx⟩; obtain ⟨g, rfl⟩ := hx)
            | (go_at_call 27; (with_reducible refine (hasInt_v _ xs _ _ (k1.ex (by repeat (first | exact Ex.refl _ | apply Ex.plus_add | apply Ex.plus_drew | apply Ex.plus | apply Ex.alloc | apply Ex.drew))) rfl).mono ?_); rintro e w' ⟨rfl, rfl⟩))
      go_ret
      exact ⟨rfl, (by repeat (first | exact Ex.refl _ | apply Ex.plus_add | apply Ex.plus_drew | apply Ex.plus | apply Ex.alloc | apply Ex.drew))⟩

set_option maxRecDepth 100000 in
set_option maxHeartbeats 2000000 in
theorem acceptsS_any (mac : Int) (pr : Bool) (v : Value) (xs : List Int) (d0 d1 d2 d3 d4 d5 d6 d7 d8 d9 d10 d11 d12 d13 d14 : Int) (bd : ByteArray) (w : World) (k1 : Holds w xs [v]) :
    Calls Try.prog 32 #[.agg #[.int .i64 mac, .bool pr, v], .agg #[.int .i64 d0, .int .i64 d1, .int .i64 d2, .int .i64 d3, .int .i64 d4, .int .i64 d5, .int .i64 d6, .int .i64 d7, .int .i64 d8, .int .i64 d9, .int .i64 d10, .int .i64 d11, .int .i64 d12, .int .i64 d13, .int .i64 d14, .string bd]] w fun e w' => e = .returned (.bool (acceptsB mac pr xs d0 d2)) ∧ Ex w w' := by
  obtain ⟨a, cap, hv, h1, h2, _, h4⟩ := k1.ints
  simp only [List.cons.injEq, and_true] at hv
  subst hv

  unfold acceptsB
  rcases hq : filterOkB mac xs with _ | _
  case false =>
    go_enter Try.func32, Try.ntmps32
    go_wp2_with (first
          | (go_at_call 51; (with_reducible refine (filterOkS_v mac _ _ xs _ (k1.ex (by repeat (first | exact Ex.refl _ | apply Ex.plus_add | apply Ex.plus_drew | apply Ex.plus | apply Ex.alloc | apply Ex.drew))) hq).mono ?_); rintro e w' ⟨rfl, hx⟩; obtain ⟨g, rfl⟩ := hx)
          | (go_at_call 52; (with_reducible refine (l24Has_v _ xs _ _ (k1.ex (by repeat (first | exact Ex.refl _ | apply Ex.plus_add | apply Ex.plus_drew | apply Ex.plus | apply Ex.alloc | apply Ex.drew))) rfl).mono ?_); rintro e w' ⟨rfl, rfl⟩))
    go_ret
    exact ⟨rfl, (by repeat (first | exact Ex.refl _ | apply Ex.plus_add | apply Ex.plus_drew | apply Ex.plus | apply Ex.alloc | apply Ex.drew))⟩
  case true =>
    have key : ∀ a1 a2, (d0 == mac) = a1 → (d0 == 281474976710655) = a2 → (a1 || a2 || pr) = true ∨ (a1 = false ∧ a2 = false ∧ pr = false) := by
      intro a1 a2 _ _; cases a1 <;> cases a2 <;> cases pr <;> simp
    clear key
    rcases h5 : (d0 == mac) with _ | _ <;> rcases h6 : (d0 == 281474976710655) with _ | _ <;> cases pr <;> rcases h7 : (d2 == -1) with _ | _
    all_goals
      go_enter Try.func32, Try.ntmps32
      go_wp2_with (first
            | (go_at_call 51; (with_reducible refine (filterOkS_v mac _ _ xs _ (k1.ex (by repeat (first | exact Ex.refl _ | apply Ex.plus_add | apply Ex.plus_drew | apply Ex.plus | apply Ex.alloc | apply Ex.drew))) hq).mono ?_); rintro e w' ⟨rfl, hx⟩; obtain ⟨g, rfl⟩ := hx)
            | (go_at_call 52; (with_reducible refine (l24Has_v _ xs _ _ (k1.ex (by repeat (first | exact Ex.refl _ | apply Ex.plus_add | apply Ex.plus_drew | apply Ex.plus | apply Ex.alloc | apply Ex.drew))) rfl).mono ?_); rintro e w' ⟨rfl, rfl⟩))
      go_ret
      exact ⟨rfl, (by repeat (first | exact Ex.refl _ | apply Ex.plus_add | apply Ex.plus_drew | apply Ex.plus | apply Ex.alloc | apply Ex.drew))⟩

end Go.Proofs.Ytihgekgkonacfaa
