/- The walk of FnRateBound. -/
import Derived.Test.YtlpipllhbobfbaaRows
import Derived.Test.YtlpipllhbobfbaaBktP
namespace Go.Proofs.Ytlpipllhbobfbaa
open Go.RowKit
set_option linter.unusedVariables false

/-- What is spent up to tick T. -/
def sumTo (T : Int) : List Int → List Int → Int
  | l :: ls, n :: ns => (if 0 ≤ l ∧ l ≤ T then n else 0) + sumTo T ls ns
  | _, _ => 0
/-- Ticks that rise from lo on, then -1 alone. -/
def mono : Int → List Int → Prop
  | _, [] => True
  | lo, x :: xs => (x = -1 ∧ ∀ y ∈ xs, y = -1) ∨ (lo ≤ x ∧ mono x xs)
theorem mono_lo {lo lo' : Int} (h : lo' ≤ lo) : ∀ xs, mono lo xs → mono lo' xs
  | [], _ => trivial
  | x :: xs, .inl hx => .inl hx
  | x :: xs, .inr hx => .inr ⟨by omega, hx.2⟩
theorem mono_in {K : List Int → Int → List Int} (s : Int) (hK : ∀ rest tok, mono (s + 1) (K rest tok)) : ∀ rest tok, mono s (paceIn K s rest tok)
  | [], tok => mono_lo (by omega) _ (hK _ _)
  | n :: rs, tok => by
    rw [paceIn]
    split
    · exact .inr ⟨Int.le_refl _, mono_in s hK rs _⟩
    · exact mono_lo (by omega) _ (hK _ _)
theorem mono_pace (r b : Int) : ∀ (m : Nat) (s : Int) rest tok, mono s (pace r b m s rest tok)
  | 0, s, rest, tok => by
    rw [pace]
    cases rest with
    | nil => trivial
    | cons x xs => exact .inl ⟨rfl, fun y hy => by obtain ⟨_, _, rfl⟩ := List.mem_map.1 hy; rfl⟩
  | m + 1, s, rest, tok => by rw [pace]; exact mono_in s (fun rest tok => mono_pace r b m (s + 1) rest _) rest tok
theorem mono_next : ∀ {lo : Int} (xs : List Int), 0 ≤ lo → mono lo xs → ∀ k (h : k + 1 < xs.length), 0 ≤ xs[k + 1] → 0 ≤ xs[k]'(by omega) ∧ xs[k]'(by omega) ≤ xs[k + 1]
  | lo, [], _, _, k, h, _ => by simp at h
  | lo, [x], _, _, k, h, _ => by simp at h
  | lo, x :: y :: xs, h0, hm, k, h, hk => by
    rcases hm with ⟨rfl, ha⟩ | ⟨h1, h2⟩
    · have := ha ((y :: xs)[k]'(by simpa using h)) (List.getElem_mem _)
      simp only [List.getElem_cons_succ] at hk
      omega
    · cases k with
      | zero =>
        simp only [List.getElem_cons_succ, List.getElem_cons_zero] at hk ⊢
        rcases h2 with ⟨rfl, _⟩ | ⟨h3, _⟩
        · omega
        · omega
      | succ k =>
        have := mono_next (lo := x) (y :: xs) (by omega) h2 k (by simpa using h) (by simpa using hk)
        simpa using this
theorem sum_neg (T : Int) : ∀ (L N : List Int), (∀ y ∈ L, y = -1) → sumTo T L N = 0
  | [], _, _ => by simp [sumTo]
  | _ :: _, [], _ => by simp [sumTo]
  | l :: L, n :: N, h => by
    have := h l (List.mem_cons_self ..)
    rw [sumTo, if_neg (by omega), sum_neg T L N fun y hy => h y (List.mem_cons_of_mem _ hy)]
    rfl
theorem sum_late (T : Int) : ∀ (lo : Int) (L N : List Int), T < lo → mono lo L → sumTo T L N = 0
  | _, [], _, _, _ => by simp [sumTo]
  | _, _ :: _, [], _, _ => by simp [sumTo]
  | lo, l :: L, n :: N, h, hm => by
    rcases hm with ⟨rfl, ha⟩ | ⟨h1, h2⟩
    · exact sum_neg T _ _ (fun y hy => by rcases List.mem_cons.1 hy with rfl | hy; rfl; exact ha y hy)
    · rw [sumTo, if_neg (by omega), sum_late T l L N (by omega) h2]; rfl
theorem sum_in {K : List Int → Int → List Int} (r T s : Int) (h0 : 0 ≤ s) (hT : s ≤ T) (hr : 0 ≤ r) (hK : ∀ rest tok, 0 ≤ tok → sumTo T (K rest tok) rest ≤ tok + (T - s) * r) : ∀ rest tok, 0 ≤ tok → sumTo T (paceIn K s rest tok) rest ≤ tok + (T - s) * r
  | [], tok, ht => hK _ _ ht
  | n :: rs, tok, ht => by
    rw [paceIn]
    split
    · rename_i hn
      have := inB_iff.1 hn
      have := sum_in r T s h0 hT hr hK rs (tok - n) (by omega)
      rw [sumTo, if_pos (by omega)]
      omega
    · exact hK _ _ ht
theorem sum_pace (r b T : Int) (hr : 0 ≤ r) (hb : 0 ≤ b) : ∀ (m : Nat) (s : Int) rest tok, 0 ≤ s → s ≤ T → 0 ≤ tok → sumTo T (pace r b m s rest tok) rest ≤ tok + (T - s) * r
  | 0, s, rest, tok, _, hT, ht => by
    rw [pace, sum_neg T _ _ (fun y hy => by obtain ⟨_, _, rfl⟩ := List.mem_map.1 hy; rfl)]
    have := Int.mul_nonneg (show 0 ≤ T - s by omega) hr
    omega
  | m + 1, s, rest, tok, h0, hT, ht => by
    rw [pace]
    refine sum_in r T s h0 hT hr (fun rest tok ht => ?_) rest tok ht
    have hp := Int.mul_nonneg (show 0 ≤ T - s by omega) hr
    rcases Int.lt_or_le T (s + 1) with h | h
    · rw [sum_late T (s + 1) _ _ h (mono_pace ..)]; omega
    · have h1 := sum_pace r b T hr hb m (s + 1) rest (min (tok + r * 1) b) (by omega) h (by omega)
      have e : (T - (s + 1)) * r = (T - s) * r - r := by rw [show T - (s + 1) = (T - s) - 1 by omega, Int.sub_mul]; omega
      rw [e] at h1
      omega
theorem sum_succ (T : Int) : ∀ (L N : List Int) (k : Nat) (h1 : k < L.length) (h2 : k < N.length), sumTo T (L.take (k + 1)) (N.take (k + 1)) = sumTo T (L.take k) (N.take k) + if 0 ≤ L[k] ∧ L[k] ≤ T then N[k] else 0
  | [], _, _, h, _ => by simp at h
  | _ :: _, [], _, _, h => by simp at h
  | l :: L, n :: N, 0, _, _ => by simp [sumTo]
  | l :: L, n :: N, k + 1, h1, h2 => by
    have := sum_succ T L N k (by simpa using h1) (by simpa using h2)
    simp only [List.take_succ_cons, sumTo, List.getElem_cons_succ] at this ⊢
    rw [this]; omega

set_option maxRecDepth 100000 in
set_option maxHeartbeats 4000000 in
theorem walk_FnRateBound (w : World) (code : Value) (codeD : List UInt8) (hcode : Holds w codeD [code]) :
    Calls Try.prog 4 #[code] w fun e w' => e = .returned (.bool true) ∧ Ex w w' := by
  obtain ⟨a, cap, hv, l1, l2, l3⟩ := hcode.bytes
  simp only [List.cons.injEq, and_true] at hv
  subst hv
  clear l3
  by_cases hbig : 1048576 < codeD.length
  · have HQ := hid (decide_eq_true hbig)
    go_enter Try.func4, Try.ntmps4
    go_wp2_with fail
    (with_reducible refine (big_v _ codeD _ hcode HQ.out).mono ?_); rintro e w' ⟨rfl, rfl⟩
    go_wp2
    go_ret
    exact ⟨rfl, (by repeat (first | (with_reducible exact Ex.refl _) | (with_reducible apply Ex.plus_add) | (with_reducible apply Ex.plus_drew) | (with_reducible apply Ex.plus) | (with_reducible apply Ex.alloc) | (with_reducible apply Ex.drew)))⟩
  have HQ := hid (decide_eq_false hbig)
  go_enter Try.func4, Try.ntmps4
  go_wp2_with fail
  (with_reducible refine (big_v _ codeD _ hcode HQ.out).mono ?_); rintro e w' ⟨rfl, rfl⟩
  go_wp2_with fail
  (with_reducible refine (drawPacing_any _ codeD _ hcode).mono ?_); rintro e w' ⟨r, b, t, xs, ax, cx, hbk, r1, b1, xl, xb, rfl, ho, hx⟩; obtain ⟨g1, rfl⟩ := hx
  obtain ⟨q1, q2, q3, q4, q5, q6⟩ := bok_bd hbk
  have HBK := hid hbk
  clear hbk
  obtain ⟨RES, hR⟩ : ∃ R, R = paceV r b t xs 20 := ⟨_, rfl⟩
  have hP : RES = pace r b 20 0 xs t := by rw [hR, paceV, HBK.out]; rfl
  have hlen : RES.length = xs.length := by rw [hP, pace_len]
  have hmo : mono 0 RES := by rw [hP]; exact mono_pace ..
  have hsm : ∀ T : Int, 0 ≤ T → sumTo T RES xs ≤ t + T * r := fun T hT => by have h := sum_pace r b T q1 q3 20 0 xs t (by omega) hT q5; rw [← hP] at h; simpa using h
  have HR := hid hR
  have HL := hid hlen
  have HM := hid hmo
  have HS := hid hsm
  have XB := hid xb
  clear hR hP hlen hmo hsm xb
  go_wp2_with fail
  (with_reducible refine (pace_any _ _ _ _ xs _ _ (ho.holds.ex (by repeat (first | (with_reducible exact Ex.refl _) | (with_reducible apply Ex.plus_add) | (with_reducible apply Ex.plus_drew) | (with_reducible apply Ex.plus) | (with_reducible apply Ex.alloc) | (with_reducible apply Ex.drew)))) (by omega)).mono ?_); rintro e W ⟨a2, c2, he, ho2, hx2⟩; rw [← HR.out] at he ho2; subst he
  have hN : Holds W xs [.slice ax xs.length cx] := (ho.holds.ex (show Ex _ _ from (by repeat (first | (with_reducible exact Ex.refl _) | (with_reducible apply Ex.drew) | (with_reducible apply Ex.plus_add) | (with_reducible apply Ex.plus_drew) | (with_reducible apply Ex.plus) | (with_reducible apply Ex.alloc) | (with_reducible refine Ex.upd1 ?_ (by first | (simp; done) | omega | (simp; omega))) | (with_reducible refine Ex.setCell ?_ (by first | (simp; done) | omega | (simp; omega)) _))))).ex hx2
  have hL : Holds W RES [.slice a2 RES.length c2] := ho2.holds
  have hxW : Ex w W := Ex.trans (show Ex w _ from (by repeat (first | (with_reducible exact Ex.refl _) | (with_reducible apply Ex.drew) | (with_reducible apply Ex.plus_add) | (with_reducible apply Ex.plus_drew) | (with_reducible apply Ex.plus) | (with_reducible apply Ex.alloc) | (with_reducible refine Ex.upd1 ?_ (by first | (simp; done) | omega | (simp; omega))) | (with_reducible refine Ex.setCell ?_ (by first | (simp; done) | omega | (simp; omega)) _)))) hx2
  generalize hVd : w.heap.size + g1.o.size = V at *
  have hV : W.heap[V]? = some (.cells #[.int .i64 r, .int .i64 b, .int .i64 t] 32 (0, 0)) := hx2.row (by (repeat (first | (with_reducible refine row_plus ?_) | (with_reducible refine row_drew ?_) | (with_reducible exact row_allocN (by first | assumption | (simp; done) | (simp; omega))) | (with_reducible refine row_allocO ?_) | (with_reducible refine row_updN (by first | assumption | exact Ne.symm (by assumption) | (simp; omega)) ?_) | (with_reducible refine row_setO (by first | assumption | exact Ne.symm (by assumption) | (simp; omega)) ?_) | (with_reducible refine row_updO (by assumption) ?_))); try exact rfl)
  clear ho ho2 hx2
  obtain ⟨_, _, hv1, m1, m2, m3, _⟩ := hN.ints
  simp only [List.cons.injEq, Value.slice.injEq, and_true, true_and] at hv1
  obtain ⟨rfl, rfl⟩ := hv1
  obtain ⟨_, _, hv2, p1, p2, p3, _⟩ := hL.ints
  simp only [List.cons.injEq, Value.slice.injEq, and_true, true_and] at hv2
  obtain ⟨rfl, rfl⟩ := hv2
  unfold maxLen at m2 p2
  have hlq : ((RES.length : Int) != xs.length) = false := by rw [HL.out]; simp
  have hle : RES.length ≤ 7 := by rw [HL.out]; exact xl
  have M3 := hid m3
  have P3 := hid p3
  have HV := hid hV
  clear m3 p3 hV
  go_wp2
  go_loopw [6] (fun q wr => ∃ T : Int, q = .int .i64 T ∧ 0 ≤ T ∧ T ≤ 20 ∧ Ex W wr) (fun q _ => (20 - intOf q).toNat)
  case atStart => exact ⟨0, rfl, by omega, by omega, Ex.refl _⟩
  case round =>
    obtain ⟨T, rfl, T0, T1, hx⟩ := hrel
    have HX := hid hx
    by_cases hT : T < 20
    case neg =>
      have hV := HX.out.row HV.out
      have d0 : wr.cell? ⟨V, 0, none⟩ = some (.int .i64 r) := by rw [cell_row hV]; rfl
      have d1 : wr.cell? ⟨V, 1, none⟩ = some (.int .i64 b) := by rw [cell_row hV]; rfl
      have d2 : wr.cell? ⟨V, 2, none⟩ = some (.int .i64 t) := by rw [cell_row hV]; rfl
      clear hV hx
      go_wp2_with (first
            | (go_at_call 22; (with_reducible refine (bucketOk_v HBK.out _).mono ?_); rintro e w' ⟨rfl, hx⟩; obtain ⟨g, rfl⟩ := hx))
      go_ret
      exact ⟨rfl, (by repeat (first | (with_reducible exact hxW.trans HX.out) | (with_reducible refine Ex.plus ?_ _) | (with_reducible refine Ex.drew ?_) | (with_reducible refine Ex.alloc ?_ _) | (with_reducible refine Ex.upd1 ?_ (by first | assumption | omega | (simp; done) | (simp; omega))) | (with_reducible refine Ex.setCell ?_ (by first | assumption | omega | (simp; done) | (simp; omega)) _) | (with_reducible refine Ex.upd ?_ HBL.out)))⟩
    case pos =>
    clear hx
    go_wp2
    go_loopw [7, 8] (fun q i wr => ∃ (k : Nat) (s : Int), i = .int .i64 k ∧ k ≤ RES.length ∧ q = .int .i64 s ∧ 0 ≤ s ∧ s ≤ 60 * k ∧ s = sumTo T (RES.take k) (xs.take k) ∧ Ex W wr) (fun _ i _ => RES.length - (intOf i).toNat)
    case atStart => exact ⟨0, 0, rfl, Nat.zero_le _, rfl, by omega, by omega, by simp [sumTo], HX.out⟩
    case round =>
      obtain ⟨k, s, rfl, hk, rfl, s0, s1, hs, hx⟩ := hrel
      clear HX
      have HX := hid hx
      have HSK := hid hs
      by_cases hlt : k < RES.length
      case neg =>
        have hV := HX.out.row HV.out
        have d0 : wr.cell? ⟨V, 0, none⟩ = some (.int .i64 r) := by rw [cell_row hV]; rfl
        have d1 : wr.cell? ⟨V, 1, none⟩ = some (.int .i64 b) := by rw [cell_row hV]; rfl
        have d2 : wr.cell? ⟨V, 2, none⟩ = some (.int .i64 t) := by rw [cell_row hV]; rfl
        have hb : s ≤ t + T * r := by
          have h := HS.out T T0
          rw [hs, List.take_of_length_le (by omega), List.take_of_length_le (by have := HL.out; omega)]; exact h
        have hm0 : 0 ≤ T * r ∧ T * r ≤ 2000 := ⟨Int.mul_nonneg T0 q1, by
          have h1 : T * r ≤ T * 100 := Int.mul_le_mul_of_nonneg_left r1 T0
          omega⟩
        obtain ⟨hm0, hm1⟩ := hm0
        clear hV hx hs
        go_wp2
        go_roundw
        case rel => exact ⟨T + 1, rfl, by omega, by omega, HX.out⟩
        case measure => simp [intOf]; omega
      case pos =>
      have hk2 : k < xs.length := by have := HL.out; omega
      obtain ⟨b1, o1, rfl, c1⟩ := M3.out k hk2
      obtain ⟨b2, o2, rfl, c2⟩ := P3.out k hlt
      replace c1 := (HX.out.cell (World.block_lt_of_cell? _ _ c1)).trans c1
      replace c2 := (HX.out.cell (World.block_lt_of_cell? _ _ c2)).trans c2
      have hsu := sum_succ T RES xs k hlt hk2
      have hnx := XB.out _ (List.getElem_mem hk2)
      have z1 := World.block_lt_of_cell? _ _ c1
      have z2 := World.block_lt_of_cell? _ _ c2
      have hpv : k = 0 ∨ ∃ p, p < RES.length ∧ k = p + 1 := by
        cases k with
        | zero => exact .inl rfl
        | succ p => exact .inr ⟨p, by omega, rfl⟩
      have hmn : ∀ p (hp : p < RES.length), k = p + 1 → 0 ≤ RES[k] → 0 ≤ RES[p] ∧ RES[p] ≤ RES[k] := by
        intro p hp e h
        subst e
        exact mono_next RES (Int.le_refl 0) HM.out p hlt h
      obtain ⟨n, hn⟩ : ∃ n, n = xs[k] := ⟨_, rfl⟩
      obtain ⟨y, hy⟩ : ∃ y, y = RES[k] := ⟨_, rfl⟩
      rw [← hn, ← hy] at hsu
      rw [← hn] at c1 hnx
      rw [← hy] at c2
      simp only [← hy] at hmn
      obtain ⟨n0, n1⟩ := hnx
      have HSU := hid hsu
      have HMN := hid hmn
      clear hsu hmn hs hx hn hy
      have fin : ∀ s2 : Int, s2 = s + (if 0 ≤ y ∧ y ≤ T then n else 0) → s2 = sumTo T (RES.take (k + 1)) (xs.take (k + 1)) := fun s2 h => by rw [h, HSK.out, HSU.out]
      have FIN := hid fin
      clear fin
      have ycs : y < 0 ∨ (0 ≤ y ∧ y ≤ T) ∨ (0 ≤ y ∧ T < y) := by omega
      have kcs : (k : Int) ≤ 0 ∨ ∃ (p : Nat) (x : Int), 0 < (k : Int) ∧ (0 ≤ y → 0 ≤ x ∧ x ≤ y) ∧ ((k : Int) - 1).toNat = p ∧ 0 ≤ (k : Int) - 1 ∧ (k : Int) - 1 < RES.length ∧ 1 ≤ (k : Int) ∧ (p : Int) < RES.length ∧ wr.cell? ⟨b2, o2 + p, none⟩ = some (.int .i64 x) := by
        rcases hpv with rfl | ⟨p, hp, e⟩
        · exact .inl (by omega)
        · obtain ⟨b4, o4, e4, c4⟩ := P3.out p hp
          simp only [Option.some.injEq, Addr.mk.injEq, and_true] at e4
          obtain ⟨rfl, rfl⟩ := e4
          exact .inr ⟨p, RES[p], by omega, HMN.out p hp e, by omega, by omega, by omega, by omega, by omega, (HX.out.cell (World.block_lt_of_cell? _ _ c4)).trans c4⟩
      clear hpv
      rcases kcs with kz | ⟨p, x, kp, hxy, e1, e2, e3, e5, e6, c4⟩
      · rcases ycs with y1 | ⟨y1, y2⟩ | ⟨y1, y2⟩
        · have kzN : decide (0 < k) = false := by simp; omega
          go_wp2
          refine wp_region_ext (by kernel_rfl) (by kernel_rfl) ?_
          repeat (go_big_quiet_step (fail))
          refine wpQuiet_nil ?_
          intro g
          go_wp2
          go_roundw
          case rel => exact ⟨k + 1, s, by go_num, by omega, rfl, by omega, by omega, FIN.out _ (by rw [if_neg (by omega)]; omega), (by repeat (first | (with_reducible exact HX.out) | (with_reducible refine Ex.plus ?_ _) | (with_reducible refine Ex.drew ?_) | (with_reducible refine Ex.alloc ?_ _) | (with_reducible refine Ex.upd1 ?_ (by first | assumption | omega | (simp; done) | (simp; omega))) | (with_reducible refine Ex.setCell ?_ (by first | assumption | omega | (simp; done) | (simp; omega)) _) | (with_reducible refine Ex.upd ?_ HBL.out)))⟩
          case measure => simp [intOf]; omega
        · have kzN : decide (0 < k) = false := by simp; omega
          go_wp2
          refine wp_region_ext (by kernel_rfl) (by kernel_rfl) ?_
          repeat (go_big_quiet_step (fail))
          refine wpQuiet_nil ?_
          intro g
          go_wp2
          go_roundw
          case rel => exact ⟨k + 1, (s + n), by go_num, by omega, rfl, by omega, by omega, FIN.out _ (by rw [if_pos ⟨y1, y2⟩]), (by repeat (first | (with_reducible exact HX.out) | (with_reducible refine Ex.plus ?_ _) | (with_reducible refine Ex.drew ?_) | (with_reducible refine Ex.alloc ?_ _) | (with_reducible refine Ex.upd1 ?_ (by first | assumption | omega | (simp; done) | (simp; omega))) | (with_reducible refine Ex.setCell ?_ (by first | assumption | omega | (simp; done) | (simp; omega)) _) | (with_reducible refine Ex.upd ?_ HBL.out)))⟩
          case measure => simp [intOf]; omega
        · have kzN : decide (0 < k) = false := by simp; omega
          go_wp2
          refine wp_region_ext (by kernel_rfl) (by kernel_rfl) ?_
          repeat (go_big_quiet_step (fail))
          refine wpQuiet_nil ?_
          intro g
          go_wp2
          go_roundw
          case rel => exact ⟨k + 1, s, by go_num, by omega, rfl, by omega, by omega, FIN.out _ (by rw [if_neg (by omega)]; omega), (by repeat (first | (with_reducible exact HX.out) | (with_reducible refine Ex.plus ?_ _) | (with_reducible refine Ex.drew ?_) | (with_reducible refine Ex.alloc ?_ _) | (with_reducible refine Ex.upd1 ?_ (by first | assumption | omega | (simp; done) | (simp; omega))) | (with_reducible refine Ex.setCell ?_ (by first | assumption | omega | (simp; done) | (simp; omega)) _) | (with_reducible refine Ex.upd ?_ HBL.out)))⟩
          case measure => simp [intOf]; omega
      · rcases ycs with y1 | ⟨y1, y2⟩ | ⟨y1, y2⟩
        · clear hxy
          have kpN : decide (0 < k) = true := by simp; omega
          have yN : decide (0 ≤ y) = false := by simp; omega
          go_wp2
          refine wp_region_ext (by kernel_rfl) (by kernel_rfl) ?_
          repeat (go_big_quiet_step (fail))
          refine wpQuiet_nil ?_
          intro g
          go_wp2
          go_roundw
          case rel => exact ⟨k + 1, s, by go_num, by omega, rfl, by omega, by omega, FIN.out _ (by rw [if_neg (by omega)]; omega), (by repeat (first | (with_reducible exact HX.out) | (with_reducible refine Ex.plus ?_ _) | (with_reducible refine Ex.drew ?_) | (with_reducible refine Ex.alloc ?_ _) | (with_reducible refine Ex.upd1 ?_ (by first | assumption | omega | (simp; done) | (simp; omega))) | (with_reducible refine Ex.setCell ?_ (by first | assumption | omega | (simp; done) | (simp; omega)) _) | (with_reducible refine Ex.upd ?_ HBL.out)))⟩
          case measure => simp [intOf]; omega
        · obtain ⟨x0, xy⟩ := hxy y1
          clear hxy
          have kpN : decide (0 < k) = true := by simp; omega
          have xN : decide (x < 0) = false := by simp; omega
          have xyN : decide (y < x) = false := by simp; omega
          go_wp2
          refine wp_region_ext (by kernel_rfl) (by kernel_rfl) ?_
          repeat (go_big_quiet_step (fail))
          refine wpQuiet_nil ?_
          intro g
          go_wp2
          go_roundw
          case rel => exact ⟨k + 1, (s + n), by go_num, by omega, rfl, by omega, by omega, FIN.out _ (by rw [if_pos ⟨y1, y2⟩]), (by repeat (first | (with_reducible exact HX.out) | (with_reducible refine Ex.plus ?_ _) | (with_reducible refine Ex.drew ?_) | (with_reducible refine Ex.alloc ?_ _) | (with_reducible refine Ex.upd1 ?_ (by first | assumption | omega | (simp; done) | (simp; omega))) | (with_reducible refine Ex.setCell ?_ (by first | assumption | omega | (simp; done) | (simp; omega)) _) | (with_reducible refine Ex.upd ?_ HBL.out)))⟩
          case measure => simp [intOf]; omega
        · obtain ⟨x0, xy⟩ := hxy y1
          clear hxy
          have kpN : decide (0 < k) = true := by simp; omega
          have xN : decide (x < 0) = false := by simp; omega
          have xyN : decide (y < x) = false := by simp; omega
          go_wp2
          refine wp_region_ext (by kernel_rfl) (by kernel_rfl) ?_
          repeat (go_big_quiet_step (fail))
          refine wpQuiet_nil ?_
          intro g
          go_wp2
          go_roundw
          case rel => exact ⟨k + 1, s, by go_num, by omega, rfl, by omega, by omega, FIN.out _ (by rw [if_neg (by omega)]; omega), (by repeat (first | (with_reducible exact HX.out) | (with_reducible refine Ex.plus ?_ _) | (with_reducible refine Ex.drew ?_) | (with_reducible refine Ex.alloc ?_ _) | (with_reducible refine Ex.upd1 ?_ (by first | assumption | omega | (simp; done) | (simp; omega))) | (with_reducible refine Ex.setCell ?_ (by first | assumption | omega | (simp; done) | (simp; omega)) _) | (with_reducible refine Ex.upd ?_ HBL.out)))⟩
          case measure => simp [intOf]; omega

end Go.Proofs.Ytlpipllhbobfbaa
