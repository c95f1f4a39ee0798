/- The walks of FnWaiting and FnRateBound. -/
import Derived.Test.YtlpipllhbobfbaaRows
import Derived.Test.YtlpipllhbobfbaaBktD
import Derived.Test.YtlpipllhbobfbaaPace
namespace Go.Proofs.Ytlpipllhbobfbaa
open Go.RowKit
set_option linter.unusedVariables false

set_option maxHeartbeats 1000000 in
theorem big_v (v : Value) (code : List UInt8) (w : World) (k1 : Holds w code [v]) {q : Bool} (hq : decide (1048576 < code.length) = q) :
    Calls Try.prog 19 #[v] w fun e w' => e = .returned (.bool q) ∧ w = w' := by
  obtain ⟨a, cap, hv, h1, h2, h3⟩ := k1.bytes
  simp only [List.cons.injEq, and_true] at hv
  subst hv
  unfold maxLen at h2
  clear h3
  go_enter Try.func19, Try.ntmps19
  go_wp2
  go_ret
  exact ⟨ret_bool (by rw [← hq, Bool.eq_iff_iff]; simp; omega), rfl⟩

set_option maxHeartbeats 1000000 in
theorem at_any (v : Value) (code : List UInt8) (i : Int) (w : World) (k1 : Holds w code [v]) (h0 : 0 ≤ i) (hi : i ≤ 100000) :
    Calls Try.prog 23 #[v, .int .i64 i] w fun e w' => ∃ r : Int, 0 ≤ r ∧ r ≤ 255 ∧ e = .returned (.int .i64 r) ∧ w = w' := by
  obtain ⟨a, cap, hv, h1, h2, h3⟩ := k1.bytes
  simp only [List.cons.injEq, and_true] at hv
  subst hv
  unfold maxLen at h2
  by_cases hl : code.length = 0
  · clear h3
    have b0 : ((code.length : Int) == 0) = true := beq_iff_eq.2 (by omega)
    have HL := hid hl
    clear hl
    go_enter Try.func23, Try.ntmps23
    go_wp2
    go_ret
    exact ⟨0, by omega, by omega, rfl, rfl⟩
  · have b0 : ((code.length : Int) == 0) = false := beq_eq_false_iff_ne.2 (by omega)
    have p0 : (0 : Int) < code.length := by omega
    have q0 : 0 ≤ (i * 5 + 1) % (code.length : Int) := Int.emod_nonneg _ (by omega)
    have q1 : (i * 5 + 1) % (code.length : Int) < code.length := Int.emod_lt_of_pos _ p0
    obtain ⟨k, hk⟩ := Int.eq_ofNat_of_zero_le q0
    have hlt : k < code.length := by omega
    obtain ⟨b, off, rfl, hc⟩ := h3 k hlt
    have hy := code[k].toNat_lt
    generalize code[k] = y at *
    clear h3
    go_enter Try.func23, Try.ntmps23
    go_wp2
    go_ret
    exact ⟨y.toNat, by omega, by omega, rfl, rfl⟩

set_option maxHeartbeats 400000 in
theorem refill_u (r b t k : Int) (h : bucketOkB r b t = true) (h2 : inB k 0 1000000 = true) {u : Int} (hu : u = min (t + r * k) b) (w : World) :
    Calls Try.prog 26 #[.agg #[.int .i64 r, .int .i64 b, .int .i64 t], .int .i64 k] w fun e w' => e = .returned (.agg #[.int .i64 r, .int .i64 b, .int .i64 u]) ∧ Ex w w' := by
  exact hu ▸ refill_t r b t k h h2 w

set_option maxHeartbeats 400000 in
theorem wait_v (r b t n : Int) {K : Int} (hK : waitV r b t n = K) (w : World) :
    Calls Try.prog 24 #[.agg #[.int .i64 r, .int .i64 b, .int .i64 t], .int .i64 n] w fun e w' => e = .returned (.int .i64 K) ∧ Ex w w' := by
  exact hK ▸ wait_any r b t n w

set_option maxHeartbeats 400000 in
theorem waitS_v (r b t n : Int) {K : Int} (hK : waitV r b t n = K) (w : World) :
    Calls Try.prog 27 #[.agg #[.int .i64 r, .int .i64 b, .int .i64 t], .int .i64 n] w fun e w' => e = .returned (.int .i64 K) ∧ Ex w w' := by
  exact hK ▸ waitS_any r b t n w

theorem bok_lo {r b t : Int} (h : bucketOkB r b t = true) (u : Int) (h0 : 0 ≤ u) (h1 : u ≤ b) : bucketOkB r b u = true := by
  simp only [bucketOkB, Bool.and_eq_true, inB_iff] at h ⊢; omega
theorem ceil_bd {x r : Int} (hr : 0 < r) : x ≤ r * ((x + r - 1) / r) ∧ r * ((x + r - 1) / r - 1) < x := by
  have h1 := Int.mul_ediv_add_emod (x + r - 1) r
  have h2 := Int.emod_nonneg (x + r - 1) (show r ≠ 0 by omega)
  have h3 := Int.emod_lt_of_pos (x + r - 1) hr
  rw [Int.mul_sub]
  omega

set_option maxRecDepth 100000 in
set_option maxHeartbeats 4000000 in
theorem walk_FnWaiting (w : World) (code : Value) (codeD : List UInt8) (hcode : Holds w codeD [code]) :
    Calls Try.prog 5 #[code] w fun e w' => e = .returned (.bool true) ∧ Ex w w' := by
  obtain ⟨a, cap, hv, l1, l2, l3⟩ := hcode.bytes
  simp only [List.cons.injEq, and_true] at hv
  subst hv
  clear l3
  by_cases hbig : 1048576 < codeD.length
  · have HQ := hid (decide_eq_true hbig)
    go_enter Try.func5, Try.ntmps5
    go_wp2_with fail
    (with_reducible refine (big_v _ codeD _ hcode HQ.out).mono ?_); rintro e w' ⟨rfl, rfl⟩
    go_wp2
    go_ret
    exact ⟨rfl, (by repeat (first | (with_reducible exact Ex.refl _) | (with_reducible apply Ex.plus_add) | (with_reducible apply Ex.plus_drew) | (with_reducible apply Ex.plus) | (with_reducible apply Ex.alloc) | (with_reducible apply Ex.drew)))⟩
  have HQ := hid (decide_eq_false hbig)
  go_enter Try.func5, Try.ntmps5
  go_wp2_with fail
  (with_reducible refine (big_v _ codeD _ hcode HQ.out).mono ?_); rintro e w' ⟨rfl, rfl⟩
  go_wp2_with fail
  (with_reducible refine (drawPacing_any _ codeD _ hcode).mono ?_); rintro e w' ⟨r, b, t, xs, ax, cx, hbk, r1, b1, xl, xb, rfl, ho, hx⟩; obtain ⟨g1, rfl⟩ := hx
  obtain ⟨q1, q2, q3, q4, q5, q6⟩ := bok_bd hbk
  have HBK := hid hbk
  clear hbk
  clear ho xb xl
  go_wp2_with fail
  (with_reducible refine (at_any _ codeD _ _ (hcode.ex (by repeat (first | (with_reducible exact Ex.refl _) | (with_reducible apply Ex.plus_add) | (with_reducible apply Ex.plus_drew) | (with_reducible apply Ex.plus) | (with_reducible apply Ex.alloc) | (with_reducible apply Ex.drew)))) (by omega) (by omega)).mono ?_); rintro e w' ⟨y, y0, y1, rfl, rfl⟩
  obtain ⟨n, hn⟩ : ∃ n, n = y * 2 := ⟨_, rfl⟩
  have n0 : 0 ≤ n := by omega
  have n1 : n ≤ 510 := by omega
  have HN := hid hn
  clear hn
  rcases (by omega : n ≤ t ∨ (t < n ∧ (b < n ∨ r = 0)) ∨ (t < n ∧ n ≤ b ∧ 0 < r)) with c1 | ⟨c1, c2⟩ | ⟨c1, c2, c3⟩
  · have HK := hid (show waitV r b t (y * 2) = 0 by rw [← HN.out, waitV, HBK.out]; simp; omega)
    have HI := hid (show inB (y * 2) 0 t = true by rw [← HN.out]; exact inB_iff.2 ⟨n0, c1⟩)
    have HU := hid (show t = min (t + r * 0) b by simp; omega)
    have HB2 := hid (bok_lo HBK.out (t - y * 2) (by have := HN.out; omega) (by omega))
    go_wp2_with (first
          | (go_at_call 24; (with_reducible refine (wait_v _ _ _ _ HK.out _).mono ?_); rintro e w' ⟨rfl, hx⟩; obtain ⟨g, rfl⟩ := hx)
          | (go_at_call 26; (with_reducible refine (refill_u _ _ _ 0 HBK.out (by decide) HU.out _).mono ?_); rintro e w' ⟨rfl, hx⟩; obtain ⟨g, rfl⟩ := hx)
          | (go_at_call 25; (with_reducible refine (spend_t _ _ _ _ HBK.out HI.out _).mono ?_); rintro e w' ⟨rfl, hx⟩; obtain ⟨g, rfl⟩ := hx)
          | (go_at_call 22; (with_reducible refine (bucketOk_v HB2.out _).mono ?_); rintro e w' ⟨rfl, hx⟩; obtain ⟨g, rfl⟩ := hx))
    go_ret
    exact ⟨rfl, (by repeat (first | (with_reducible exact Ex.refl _) | (with_reducible apply Ex.plus_add) | (with_reducible apply Ex.plus_drew) | (with_reducible apply Ex.plus) | (with_reducible apply Ex.alloc) | (with_reducible apply Ex.drew)))⟩
  · obtain ⟨u, hu⟩ : ∃ u, u = min (t + r * 1000000) b := ⟨_, rfl⟩
    have hu2 : u < n ∧ 0 ≤ u ∧ u ≤ b := by
      rcases c2 with c2 | c2
      · omega
      · subst c2; simp at hu; omega
    obtain ⟨u1, u2, u3⟩ := hu2
    have HK := hid (show waitV r b t (y * 2) = -1 by rw [← HN.out, waitV, HBK.out]; simp; intro _; omega)
    have HI := hid (show inB (y * 2) 0 u = false by rw [← HN.out]; exact inB_not.2 (by omega))
    have HU := hid hu
    have HB2 := hid (bok_lo HBK.out u u2 u3)
    clear hu c2
    go_wp2_with (first
          | (go_at_call 24; (with_reducible refine (wait_v _ _ _ _ HK.out _).mono ?_); rintro e w' ⟨rfl, hx⟩; obtain ⟨g, rfl⟩ := hx)
          | (go_at_call 27; (with_reducible refine (waitS_v _ _ _ _ HK.out _).mono ?_); rintro e w' ⟨rfl, hx⟩; obtain ⟨g, rfl⟩ := hx)
          | (go_at_call 26; (with_reducible refine (refill_u _ _ _ 1000000 HBK.out (by decide) HU.out _).mono ?_); rintro e w' ⟨rfl, hx⟩; obtain ⟨g, rfl⟩ := hx)
          | (go_at_call 25; (with_reducible refine (spend_n _ _ _ _ HB2.out HI.out _).mono ?_); rintro e w' ⟨rfl, hx⟩; obtain ⟨g, rfl⟩ := hx))
    go_ret
    exact ⟨rfl, (by repeat (first | (with_reducible exact Ex.refl _) | (with_reducible apply Ex.plus_add) | (with_reducible apply Ex.plus_drew) | (with_reducible apply Ex.plus) | (with_reducible apply Ex.alloc) | (with_reducible apply Ex.drew)))⟩
  · obtain ⟨K, hK⟩ : ∃ K, K = (n - t + r - 1) / r := ⟨_, rfl⟩
    have hc := ceil_bd (x := n - t) c3
    rw [← hK] at hc
    have k1 : 1 ≤ K := by
      rcases Int.lt_or_le K 1 with h | h
      · have : r * K ≤ 0 := Int.mul_nonpos_of_nonneg_of_nonpos (by omega) (by omega)
        omega
      · exact h
    have k2 : K ≤ 1000 := by
      rcases Int.lt_or_le 1000 K with h | h
      · have : 1 * (K - 1) ≤ r * (K - 1) := Int.mul_le_mul_of_nonneg_right (by omega) (by omega)
        omega
      · exact h
    obtain ⟨u, hu⟩ : ∃ u, u = min (t + r * K) b := ⟨_, rfl⟩
    obtain ⟨v, hv⟩ : ∃ v, v = min (t + r * (K - 1)) b := ⟨_, rfl⟩
    have p1 : 0 ≤ r * (K - 1) := Int.mul_nonneg (by omega) (by omega)
    obtain ⟨u1, u2, v1, v2, v3⟩ : n ≤ u ∧ u ≤ b ∧ v < n ∧ 0 ≤ v ∧ v ≤ b := by omega
    have HK := hid (show waitV r b t (y * 2) = K by rw [← HN.out, waitV, HBK.out, hK]; simp; rw [if_neg (by omega), if_neg (by omega), if_neg (by omega)])
    have HI := hid (show inB (y * 2) 0 u = true by rw [← HN.out]; exact inB_iff.2 ⟨n0, u1⟩)
    have HJ := hid (show inB (y * 2) 0 v = false by rw [← HN.out]; exact inB_not.2 (by omega))
    have HU := hid hu
    have HV := hid hv
    have HB2 := hid (bok_lo HBK.out u (by omega) u2)
    have HB3 := hid (bok_lo HBK.out v v2 v3)
    have HB4 := hid (bok_lo HBK.out (u - y * 2) (by have := HN.out; omega) (by have := HN.out; omega))
    have HK0 := hid (show inB K 0 1000000 = true from inB_iff.2 (by omega))
    have HK1 := hid (show inB (K - 1) 0 1000000 = true from inB_iff.2 (by omega))
    clear hu hv hK hc p1
    go_wp2_with (first
          | (go_at_call 24; (with_reducible refine (wait_v _ _ _ _ HK.out _).mono ?_); rintro e w' ⟨rfl, hx⟩; obtain ⟨g, rfl⟩ := hx)
          | (go_at_call 26; (first | (with_reducible refine (refill_u _ _ _ K HBK.out HK0.out HU.out _).mono ?_) | (with_reducible refine (refill_u _ _ _ (K - 1) HBK.out HK1.out HV.out _).mono ?_)); rintro e w' ⟨rfl, hx⟩; obtain ⟨g, rfl⟩ := hx)
          | (go_at_call 25; (first | (with_reducible refine (spend_t _ _ _ _ HB2.out HI.out _).mono ?_) | (with_reducible refine (spend_n _ _ _ _ HB3.out HJ.out _).mono ?_)); rintro e w' ⟨rfl, hx⟩; obtain ⟨g, rfl⟩ := hx)
          | (go_at_call 22; (with_reducible refine (bucketOk_v HB4.out _).mono ?_); rintro e w' ⟨rfl, hx⟩; obtain ⟨g, rfl⟩ := hx))
    go_ret
    exact ⟨rfl, (by repeat (first | (with_reducible exact Ex.refl _) | (with_reducible apply Ex.plus_add) | (with_reducible apply Ex.plus_drew) | (with_reducible apply Ex.plus) | (with_reducible apply Ex.alloc) | (with_reducible apply Ex.drew)))⟩

end Go.Proofs.Ytlpipllhbobfbaa
