/- The law helpers over a Fair. -/
import Derived.Test.YtpnhoallpaanoaaIntSS
import Derived.Test.YtpnhoallpaanoaaMark
namespace Go.Proofs.Ytpnhoallpaanoaa
open Go.RowKit
set_option linter.unusedVariables false

def RetFair (w : World) (qs : List (List Int)) (ds : List Int) (q t : Int) (fr : Bool) (e : Ending) (w' : World) : Prop :=
  ∃ a1 c1 a2 c2, e = .returned (.agg #[.slice a1 qs.length c1, .slice a2 ds.length c2, .int .i64 q, .int .i64 t, .bool fr]) ∧ Owns w.heap.size w' (qs, ds) [.slice a1 qs.length c1, .slice a2 ds.length c2] ∧ Ex w w'
theorem Owns.pair {α β : Type} [Rep α] [Rep β] {lo l2 : Nat} {w : World} {x : α} {y : β} {v1 v2 : List Value} {w0 : World} (h0 : Owns lo w0 x v1) (hs : w0.heap.size ≤ l2) (hl : lo ≤ l2) (ha : Agr lo w0 w) (h2 : Owns l2 w y v2) : Owns lo w (x, y) (v1 ++ v2) := by
  obtain ⟨b1, t1, n1, f1⟩ := h0
  obtain ⟨b2, t2, n2, f2⟩ := h2
  have hr : ∀ b ∈ b1, w.heap[b]? = w0.heap[b]? := fun b hb => ha b (f1 b hb).1 (Rep.lt t1 b hb)
  refine ⟨b1 ++ b2, ⟨v1, v2, b1, b2, rfl, rfl, Rep.stable t1 hr, t2⟩, ?_, fun b hb => ?_⟩
  · rw [List.nodup_append]
    refine ⟨n1, n2, fun x hx y hy e => ?_⟩
    subst e
    have := Rep.lt t1 x hx
    have := (f2 x hy).1
    omega
  · rcases List.mem_append.1 hb with hb | hb
    · exact ⟨(f1 b hb).1, fun o => by have := (f1 b hb).2 o; simp only [World.frozen?, hr b hb] at this ⊢; exact this⟩
    · exact ⟨by have := (f2 b hb).1; omega, (f2 b hb).2⟩

set_option maxHeartbeats 1000000 in
theorem szFair_le (v1 v2 : Value) (qs : List (List Int)) (ds : List Int) (q t : Int) (fr : Bool) (l : Int) (w : World) (k1 : Holds w qs [v1]) (k2 : Holds w ds [v2]) (hl : l ≤ 1048576) (h : (qs.length : Int) + tot qs + ds.length ≤ l) :
    Calls Try.prog 21 #[.agg #[v1, v2, .int .i64 q, .int .i64 t, .bool fr], .int .i64 l] w fun e w' => e = .returned (.int .i64 (l - ((qs.length : Int) + tot qs) - ds.length)) ∧ Ex w w' := by
  obtain ⟨a, cap, hv, h1, h2, h3⟩ := k1.slices
  simp only [List.cons.injEq, and_true] at hv
  subst hv
  obtain ⟨a', cap', hv, h1', h2', h3', h4'⟩ := k2.ints
  simp only [List.cons.injEq, and_true] at hv
  subst hv
  clear h3 h3' h4'
  unfold maxLen at h2 h2'

  go_enter Try.func21, Try.ntmps21
  go_wp2_with (first
      | (go_at_call 59; (with_reducible refine (szIntSS_any _ qs l _ (k1.ex (by repeat (first | exact Ex.refl _ | apply Ex.plus_add | apply Ex.plus_drew | apply Ex.plus | apply Ex.alloc | apply Ex.drew))) (by omega) hl (r := l - ((qs.length : Int) + tot qs)) (by rw [if_pos (by omega)])).mono ?_); rintro e w' ⟨rfl, rfl⟩)
      | (go_at_call 60; (with_reducible refine (szIntS_le _ ds _ _ (k2.ex (by repeat (first | exact Ex.refl _ | apply Ex.plus_add | apply Ex.plus_drew | apply Ex.plus | apply Ex.alloc | apply Ex.drew))) (by omega) (by omega)).mono ?_); rintro e w' ⟨rfl, rfl⟩))
  go_ret
  exact ⟨rfl, (by repeat (first | exact Ex.refl _ | apply Ex.plus_add | apply Ex.plus_drew | apply Ex.plus | apply Ex.alloc | apply Ex.drew))⟩

set_option maxHeartbeats 1000000 in
theorem szFair_gt (v1 v2 : Value) (qs : List (List Int)) (ds : List Int) (q t : Int) (fr : Bool) (l : Int) (w : World) (k1 : Holds w qs [v1]) (k2 : Holds w ds [v2]) (h0 : 0 ≤ l) (hl : l ≤ 1048576) (h : l < (qs.length : Int) + tot qs + ds.length) :
    Calls Try.prog 21 #[.agg #[v1, v2, .int .i64 q, .int .i64 t, .bool fr], .int .i64 l] w fun e w' => e = .returned (.int .i64 (-1)) ∧ Ex w w' := by
  obtain ⟨a, cap, hv, h1, h2, h3⟩ := k1.slices
  simp only [List.cons.injEq, and_true] at hv
  subst hv
  obtain ⟨a', cap', hv, h1', h2', h3', h4'⟩ := k2.ints
  simp only [List.cons.injEq, and_true] at hv
  subst hv
  clear h3 h3' h4'
  unfold maxLen at h2 h2'

  by_cases hq : (qs.length : Int) + tot qs ≤ l
  · go_enter Try.func21, Try.ntmps21
    go_wp2_with (first
      | (go_at_call 59; (with_reducible refine (szIntSS_any _ qs l _ (k1.ex (by repeat (first | exact Ex.refl _ | apply Ex.plus_add | apply Ex.plus_drew | apply Ex.plus | apply Ex.alloc | apply Ex.drew))) (by omega) hl (r := l - ((qs.length : Int) + tot qs)) (by rw [if_pos (by omega)])).mono ?_); rintro e w' ⟨rfl, rfl⟩)
      | (go_at_call 60; (with_reducible refine (szIntS_gt _ ds _ _ (k2.ex (by repeat (first | exact Ex.refl _ | apply Ex.plus_add | apply Ex.plus_drew | apply Ex.plus | apply Ex.alloc | apply Ex.drew))) (by omega) (by omega) (by omega)).mono ?_); rintro e w' ⟨rfl, rfl⟩))
    go_ret
    exact ⟨rfl, (by repeat (first | exact Ex.refl _ | apply Ex.plus_add | apply Ex.plus_drew | apply Ex.plus | apply Ex.alloc | apply Ex.drew))⟩
  · go_enter Try.func21, Try.ntmps21
    go_wp2_with (first
      | (go_at_call 59; (with_reducible refine (szIntSS_any _ qs l _ (k1.ex (by repeat (first | exact Ex.refl _ | apply Ex.plus_add | apply Ex.plus_drew | apply Ex.plus | apply Ex.alloc | apply Ex.drew))) (by omega) hl (r := -1) (by rw [if_neg (by omega)])).mono ?_); rintro e w' ⟨rfl, rfl⟩))
    go_ret
    exact ⟨rfl, (by repeat (first | exact Ex.refl _ | apply Ex.plus_add | apply Ex.plus_drew | apply Ex.plus | apply Ex.alloc | apply Ex.drew))⟩

set_option maxHeartbeats 1000000 in
theorem eqFair_same (v1 v2 u1 u2 : Value) (qs : List (List Int)) (ds : List Int) (q t : Int) (fr : Bool) (w : World) (k1 : Holds w qs [v1]) (k2 : Holds w ds [v2]) (k3 : Holds w qs [u1]) (k4 : Holds w ds [u2]) :
    Calls Try.prog 25 #[.agg #[v1, v2, .int .i64 q, .int .i64 t, .bool fr], .agg #[u1, u2, .int .i64 q, .int .i64 t, .bool fr]] w fun e w' => e = .returned (.bool true) ∧ Ex w w' := by
  obtain ⟨a, cap, hv, _⟩ := k1.slices
  obtain ⟨a', cap', hv', _⟩ := k2.ints
  obtain ⟨a3, cap3, hv3, _⟩ := k3.slices
  obtain ⟨a4, cap4, hv4, _⟩ := k4.ints
  simp only [List.cons.injEq, and_true] at hv hv' hv3 hv4
  subst hv hv' hv3 hv4
  go_enter Try.func25, Try.ntmps25
  go_wp2_with (first
      | (go_at_call 67; (with_reducible refine (eqIntSS_same _ _ qs _ (k1.ex (by repeat (first | exact Ex.refl _ | apply Ex.plus_add | apply Ex.plus_drew | apply Ex.plus | apply Ex.alloc | apply Ex.drew))) (k3.ex (by repeat (first | exact Ex.refl _ | apply Ex.plus_add | apply Ex.plus_drew | apply Ex.plus | apply Ex.alloc | apply Ex.drew)))).mono ?_); rintro e w' ⟨rfl, hx⟩; obtain ⟨g, rfl⟩ := hx)
      | (go_at_call 36; (with_reducible refine (eqIntS_same _ _ ds _ (k2.ex (by repeat (first | exact Ex.refl _ | apply Ex.plus_add | apply Ex.plus_drew | apply Ex.plus | apply Ex.alloc | apply Ex.drew))) (k4.ex (by repeat (first | exact Ex.refl _ | apply Ex.plus_add | apply Ex.plus_drew | apply Ex.plus | apply Ex.alloc | apply Ex.drew)))).mono ?_); rintro e w' ⟨rfl, hx⟩; obtain ⟨g, rfl⟩ := hx))
  go_ret
  exact ⟨rfl, (by repeat (first | exact Ex.refl _ | apply Ex.plus_add | apply Ex.plus_drew | apply Ex.plus | apply Ex.alloc | apply Ex.drew))⟩

set_option maxHeartbeats 1000000 in
theorem toFair_any (v1 v2 : Value) (qs : List (List Int)) (ds : List Int) (q t : Int) (fr : Bool) (w : World) (k1 : Holds w qs [v1]) (k2 : Holds w ds [v2]) (hl : qs.length ≤ 1099511627776) (hi : ∀ x ∈ qs, x.length ≤ 1099511627776) (hd : ds.length ≤ 1099511627776) :
    Calls Try.prog 23 #[.agg #[v1, v2, .int .i64 q, .int .i64 t, .bool fr]] w (RetFair w qs ds q t fr) := by
  obtain ⟨a, cap, hv, h1, h2, h3⟩ := k1.slices
  simp only [List.cons.injEq, and_true] at hv
  subst hv
  obtain ⟨a', cap', hv, h1', h2', h3', h4'⟩ := k2.ints
  simp only [List.cons.injEq, and_true] at hv
  subst hv
  clear h3 h3' h4'
  unfold maxLen at h2 h2'

  go_enter Try.func23, Try.ntmps23
  go_wp2_with (first
    | (go_at_call 63; (with_reducible refine (toIntSS_any _ qs _ (k1.ex (by repeat (first | exact Ex.refl _ | apply Ex.plus_add | apply Ex.plus_drew | apply Ex.plus | apply Ex.alloc | apply Ex.drew))) hl hi).mono ?_); rintro e w' ⟨a1, c1, rfl, ho1, hx⟩; obtain ⟨g1, rfl⟩ := hx)
    | (go_at_call 64; (with_reducible refine (toIntS_any _ ds _ (k2.ex (by repeat (first | exact Ex.refl _ | apply Ex.plus_add | apply Ex.plus_drew | apply Ex.plus | apply Ex.alloc | apply Ex.drew))) hd).mono ?_); rintro e w' ⟨a2, c2, rfl, ho2, hx⟩; obtain ⟨g2, rfl⟩ := hx))
  refine bodyPost_ret (v := _) (by simp [results, Try.results23, go_sem] <;> rfl) rfl ⟨a1, c1, a2, c2, rfl, ?_, ?_⟩
  · refine (Owns.pair (v1 := [_]) (v2 := [_]) ho1 ?_ ?_ (by (try rw [← World.plus_plus]); repeat (first | (refine Agr.of_le ?_; (first | (simp; done) | omega | (simp; omega))) | (refine Agr.plus' ?_ ?_ _; focus simp) | (refine Agr.plusR ?_ ?_ _; focus (first | (simp; done) | omega | (simp; omega))) | (refine Agr.alloc' ?_ ?_ _; focus simp))) (ho2.agr (by (try rw [← World.plus_plus]); repeat (first | (refine Agr.of_le ?_; (first | (simp; done) | omega | (simp; omega))) | (refine Agr.plus' ?_ ?_ _; focus simp) | (refine Agr.plusR ?_ ?_ _; focus (first | (simp; done) | omega | (simp; omega))) | (refine Agr.alloc' ?_ ?_ _; focus simp))))).lower ?_
    all_goals (first | (simp; done) | omega | (simp; omega))
  · exact (by repeat (first | exact Ex.refl _ | apply Ex.plus_add | apply Ex.plus_drew | apply Ex.plus | apply Ex.alloc | apply Ex.drew))

end Go.Proofs.Ytpnhoallpaanoaa
