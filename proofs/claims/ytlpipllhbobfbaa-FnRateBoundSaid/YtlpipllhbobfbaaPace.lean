/- PaceLengths of both: the ticks at which frames can be sent. -/
import Derived.Test.YtlpipllhbobfbaaRows
import Derived.Test.YtlpipllhbobfbaaBuck
import Derived.Test.YtlpipllhbobfbaaCopy
import Derived.Test.YtlpipllhbobfbaaPlan
namespace Go.Proofs.Ytlpipllhbobfbaa
open Go.RowKit
set_option linter.unusedVariables false

def slenV : Value → Nat
  | .slice _ n _ => n
  | _ => 0
/-- The frames that are sent at tick t, then what follows. -/
def paceIn (K : List Int → Int → List Int) (t : Int) : List Int → Int → List Int
  | [], tok => K [] tok
  | n :: rs, tok => if inB n 0 tok then t :: paceIn K t rs (tok - n) else K (n :: rs) tok
def pace (r b : Int) : Nat → Int → List Int → Int → List Int
  | 0, _, rest, _ => rest.map fun _ => -1
  | m + 1, t, rest, tok => paceIn (fun rest tok => pace r b m (t + 1) rest (min (tok + r * 1) b)) t rest tok
def paceV (r b t0 : Int) (ls : List Int) (n : Int) : List Int := if bucketOkB r b t0 && inB n 0 1000 then pace r b n.toNat 0 ls t0 else []
theorem paceIn_len {K : List Int → Int → List Int} (hK : ∀ rest tok, (K rest tok).length = rest.length) (t : Int) : ∀ rest tok, (paceIn K t rest tok).length = rest.length
  | [], tok => by rw [paceIn, hK]
  | n :: rs, tok => by
    rw [paceIn]
    split
    · rw [List.length_cons, paceIn_len hK t rs, List.length_cons]
    · rw [hK]
theorem pace_len (r b : Int) : ∀ (m : Nat) (t : Int) rest tok, (pace r b m t rest tok).length = rest.length
  | 0, _, rest, _ => by rw [pace, List.length_map]
  | m + 1, t, rest, tok => by rw [pace]; exact paceIn_len (fun rest tok => pace_len r b m (t + 1) rest _) t rest tok
theorem map_neg_drop (ls : List Int) (k : Nat) (h : k < ls.length) : ((ls.drop k).map fun _ => (-1 : Int)) = -1 :: (ls.drop (k + 1)).map fun _ => -1 := by
  rw [List.drop_eq_getElem_cons h, List.map_cons]
theorem refill_one (r b t : Int) (h : bucketOkB r b t = true) {u : Int} (hu : u = min (t + r * 1) b) (w : World) :
    Calls Try.prog 26 #[.agg #[.int .i64 r, .int .i64 b, .int .i64 t], .int .i64 1] w fun e w' => e = .returned (.agg #[.int .i64 r, .int .i64 b, .int .i64 u]) ∧ Ex w w' := hu ▸ refill_t r b t 1 h (by decide) w
theorem refillS_one (r b t : Int) (h : bucketOkB r b t = true) {u : Int} (hu : u = min (t + r * 1) b) (w : World) :
    Calls Try.prog 77 #[.agg #[.int .i64 r, .int .i64 b, .int .i64 t], .int .i64 1] w fun e w' => e = .returned (.agg #[.int .i64 r, .int .i64 b, .int .i64 u]) ∧ Ex w w' := hu ▸ refillS_t r b t 1 h (by decide) w
theorem bok_mk {r b t0 t : Int} (h : bucketOkB r b t0 = true) (h0 : 0 ≤ t) (h1 : t ≤ b) : bucketOkB r b t = true := by
  simp only [bucketOkB, Bool.and_eq_true, inB_iff] at h ⊢; omega
theorem row_set3 {w : World} {b : Nat} {x0 x1 x2 y0 y1 y2 : Value} {E : TypeId} {fr : Nat × Nat} (h : w.heap[b]? = some (.cells #[x0, x1, x2] E fr)) : (((w.setCell ⟨b, 0, none⟩ y0).setCell ⟨b, 1, none⟩ y1).setCell ⟨b, 2, none⟩ y2).heap[b]? = some (.cells #[y0, y1, y2] E fr) := (row_setCell (row_setCell (row_setCell h 0 y0) 1 y1) 2 y2)

set_option maxRecDepth 100000 in
set_option maxHeartbeats 4000000 in
theorem pace_any (r b t0 : Int) (lv : Value) (ls : List Int) (n : Int) (w : World) (k1 : Holds w ls [lv]) (hl : ls.length ≤ 1048576) :
    Calls Try.prog 21 #[.agg #[.int .i64 r, .int .i64 b, .int .i64 t0], lv, .int .i64 n] w (RetSl w (paceV r b t0 ls n)) := by
  obtain ⟨a, cap, hv, m1, m2, m3, m4⟩ := k1.ints
  simp only [List.cons.injEq, and_true] at hv
  subst hv
  unfold maxLen at m2
  have hRES : ∃ RES, RES = paceV r b t0 ls n := ⟨_, rfl⟩
  obtain ⟨RES, hRES⟩ := hRES
  rw [← hRES]
  cases q1 : bucketOkB r b t0
  case false =>
    have HR := hid (show RES = [] by rw [hRES, paceV, q1]; rfl)
    have H1 := hid q1
    clear q1 hRES m3 m4
    go_enter Try.func21, Try.ntmps21
    go_wp2_with (first
        | (go_at_call 22; (with_reducible refine (bucketOk_v H1.out _).mono ?_); rintro e w' ⟨rfl, hx⟩; obtain ⟨g, rfl⟩ := hx))
    go_ret
    rw [HR.out]
    exact ⟨_, _, rfl, ((Slot.nil _ _ 3 1).ints (by intro x hx; cases hx)).2, (by repeat (first | (with_reducible exact Ex.refl _) | (with_reducible apply Ex.plus_add) | (with_reducible apply Ex.plus_drew) | (with_reducible apply Ex.plus) | (with_reducible apply Ex.alloc) | (with_reducible apply Ex.drew)))⟩
  case true =>
  cases q2 : inB n 0 1000
  case false =>
    have HR := hid (show RES = [] by rw [hRES, paceV, q1, q2]; rfl)
    have H1 := hid q1
    have H2 := hid q2
    clear q1 q2 hRES m3 m4
    go_enter Try.func21, Try.ntmps21
    go_wp2_with (first
        | (go_at_call 22; (with_reducible refine (bucketOk_v H1.out _).mono ?_); rintro e w' ⟨rfl, hx⟩; obtain ⟨g, rfl⟩ := hx)
        | (go_at_call 73; (with_reducible refine (between_v H2.out _).mono ?_); rintro e w' ⟨rfl, rfl⟩))
    go_ret
    rw [HR.out]
    exact ⟨_, _, rfl, ((Slot.nil _ _ 3 1).ints (by intro x hx; cases hx)).2, (by repeat (first | (with_reducible exact Ex.refl _) | (with_reducible apply Ex.plus_add) | (with_reducible apply Ex.plus_drew) | (with_reducible apply Ex.plus) | (with_reducible apply Ex.alloc) | (with_reducible apply Ex.drew)))⟩
  case true =>
  obtain ⟨b1, b2, b3, b4, b5, b6⟩ := bok_bd q1
  obtain ⟨n0, n1⟩ := inB_iff.1 q2
  obtain ⟨N, rfl⟩ := Int.eq_ofNat_of_zero_le n0
  have hE : pace r b N 0 ls t0 = RES := by rw [hRES, paceV, q1, q2]; rfl
  have H1 := hid q1
  have H2 := hid q2
  have HE0 := hid hE
  have M3 := hid m3
  clear q1 q2 hRES hE m3 m4
  go_enter Try.func21, Try.ntmps21
  go_wp2_with (first
        | (go_at_call 22; (with_reducible refine (bucketOk_v H1.out _).mono ?_); rintro e w' ⟨rfl, hx⟩; obtain ⟨g, rfl⟩ := hx)
        | (go_at_call 73; (with_reducible refine (between_v H2.out _).mono ?_); rintro e w' ⟨rfl, rfl⟩))
  go_loopw [7, 8] (fun vo q wr => ∃ (k : Nat) (tok : Int) (xs : List Int), q = .int .i64 k ∧ k ≤ N ∧ Slot (w.heap.size + 1) wr 3 1 vo xs.length (xs.map (Value.int .i64)) ∧ 0 ≤ tok ∧ tok ≤ b ∧ Ex w wr ∧ wr.heap[w.heap.size]? = some (.cells #[.int .i64 r, .int .i64 b, .int .i64 tok] 32 (0, 0)) ∧ xs.length ≤ ls.length ∧
    xs ++ pace r b (N - k) k (ls.drop xs.length) tok = RES ∧ ∀ x ∈ xs, i64ok x) (fun _ q _ => N - (intOf q).toNat)
  case atStart =>
    exact ⟨0, t0, [], rfl, Nat.zero_le _, (by repeat (first | (with_reducible refine Slot.plus ?_ _) | exact Slot.madeN (by first | (simp; done) | omega | (simp; omega)) (by omega))), b5, b6, (by repeat (first | (with_reducible exact Ex.refl _) | (with_reducible refine Ex.plus ?_ _) | (with_reducible refine Ex.drew ?_) | (with_reducible refine Ex.alloc ?_ _) | (with_reducible refine Ex.upd1 ?_ (by first | assumption | omega | (simp; done) | (simp; omega))) | (with_reducible refine Ex.setCell ?_ (by first | assumption | omega | (simp; done) | (simp; omega)) _) | (with_reducible refine Ex.upd ?_ HBL.out))), (by (repeat (first | (with_reducible refine row_plus ?_) | (with_reducible refine row_drew ?_) | (with_reducible exact row_allocN (by first | assumption | (simp; done) | (simp; omega))) | (with_reducible refine row_allocO ?_) | (with_reducible refine row_updN (by first | assumption | exact Ne.symm (by assumption) | (simp; omega)) ?_) | (with_reducible refine row_setO (by first | assumption | exact Ne.symm (by assumption) | (simp; omega)) ?_) | (with_reducible refine row_updO (by assumption) ?_))); try exact rfl), Nat.zero_le _, HE0.out, fun x hx => by cases hx⟩
  case round =>
    obtain ⟨k, tok, xs, rfl, hk, hs, tk0, tk1, hx, hr, hxl, he, hok⟩ := hrel
    by_cases hlt : k < N
    case neg =>
      obtain rfl : k = N := by omega
      rw [Nat.sub_self] at he
      have d0 : wr.cell? ⟨w.heap.size, 0, none⟩ = some (.int .i64 r) := by rw [cell_row hr]; rfl
      have d1 : wr.cell? ⟨w.heap.size, 1, none⟩ = some (.int .i64 b) := by rw [cell_row hr]; rfl
      have d2 : wr.cell? ⟨w.heap.size, 2, none⟩ = some (.int .i64 tok) := by rw [cell_row hr]; rfl
      have f0 := frozen_row hr 0
      have f1 := frozen_row hr 1
      have f2 := frozen_row hr 2
      have lr := row_lt hr
      have HR := hid hr
      have HX := hid hx
      have HS := hid hs
      have HE := hid he
      have HO := hid hok
      clear hr hx hs he hok
      go_wp2
      go_loopw [7] (fun vo wr3 => ∃ xs : List Int, Slot (w.heap.size + 1) wr3 3 1 vo xs.length (xs.map (Value.int .i64)) ∧ Ex w wr3 ∧ w.heap.size < wr3.heap.size ∧ xs.length ≤ ls.length ∧ xs ++ (ls.drop xs.length).map (fun _ => -1) = RES ∧ ∀ x ∈ xs, i64ok x) (fun vo _ => ls.length - slenV vo)
      case atStart => exact ⟨xs, HS.out, HX.out, lr, hxl, HE.out, HO.out⟩
      case round =>
        clear HX HR HS HE HO d0 d1 d2 f0 f1 f2 lr hxl
        obtain ⟨xs, hs, hx, lx, hxl, he, hok⟩ := hrel
        obtain ⟨a1, c1, rfl, hc1⟩ := hs.form
        have hnb : w.heap.size ∉ (Value.slice a1 xs.length c1).blk := fun h => by have := (hs.blk_lt _ h).1; omega
        have HBL := hid (show ∀ x ∈ (Value.slice a1 xs.length c1).blk, w.heap.size ≤ x from fun x hx => by have := (hs.blk_lt _ hx).1; omega)
        have HX := hid hx
        have HS := hid hs
        have HE := hid he
        have HO := hid hok
        clear hx hs he hok
        by_cases hq : xs.length < ls.length
        case pos =>
          go_wp2_with (first
            | (at_builtin; refine wpList_app rfl _ _ 33 33 rfl 3 (.int .i64 0) 1 8 Try.underlying33 info_int rfl (w.heap.size + 1) (.slice a1 xs.length c1) xs.length (xs.map (Value.int .i64)) rfl (by repeat (first | (with_reducible exact HS.out) | (with_reducible refine Slot.plus ?_ _) | (with_reducible refine Slot.drew ?_) | (with_reducible refine Slot.alloc ?_ _) | (with_reducible refine Slot.setLo ?_ (by first | (simp; done) | omega | (simp; omega)) _) | (with_reducible refine Slot.updN ?_ (by assumption)))) _ 1 [.int .i64 (-1)] rfl (Src.lone Try.underlying33 #[.int .i64 (-1)] (by intro u hu; simp at hu; subst hu; rfl) _ (row_allocN (by first | (simp; done) | omega | (simp; omega)))) (by unfold maxLen; omega) (by omega) (by first | (simp; done) | omega | (simp; omega)) ?_; intro v' f g9 hs2 hb2))
          obtain ⟨a2, c2, rfl, hc2⟩ := hs2.form
          go_wp2
          go_roundw
          case rel => exact ⟨xs ++ [-1], by rw [List.length_append, List.map_append]; exact hs2, (by repeat (first | (with_reducible exact HX.out) | (with_reducible refine Ex.plus ?_ _) | (with_reducible refine Ex.drew ?_) | (with_reducible refine Ex.alloc ?_ _) | (with_reducible refine Ex.upd1 ?_ (by first | assumption | omega | (simp; done) | (simp; omega))) | (with_reducible refine Ex.setCell ?_ (by first | assumption | omega | (simp; done) | (simp; omega)) _) | (with_reducible refine Ex.upd ?_ HBL.out))), by simp; omega, by simp; omega, by have h := HE.out; rw [map_neg_drop _ _ hq] at h; simpa using h, fun x hx => by rcases List.mem_append.1 hx with hx | hx; exact HO.out x hx; simp at hx; subst hx; unfold i64ok; omega⟩
          case measure => simp [slenV]; omega
        case neg =>
          have h := HE.out
          rw [List.drop_of_length_le (by omega)] at h
          simp at h
          subst h
          go_wp2
          go_ret
          exact ⟨_, _, rfl, (HS.out.ints HO.out).2.lower (by omega), HX.out⟩
    case pos =>
    have d0 : wr.cell? ⟨w.heap.size, 0, none⟩ = some (.int .i64 r) := by rw [cell_row hr]; rfl
    have d1 : wr.cell? ⟨w.heap.size, 1, none⟩ = some (.int .i64 b) := by rw [cell_row hr]; rfl
    have d2 : wr.cell? ⟨w.heap.size, 2, none⟩ = some (.int .i64 tok) := by rw [cell_row hr]; rfl
    have f0 := frozen_row hr 0
    have f1 := frozen_row hr 1
    have f2 := frozen_row hr 2
    have lr := row_lt hr
    have HR := hid hr
    have HX := hid hx
    have HS := hid hs
    have HE := hid he
    have HO := hid hok
    clear hr hx hs he hok
    obtain ⟨m, hm⟩ : ∃ m, N = k + (m + 1) := ⟨N - k - 1, by omega⟩
    have HM := hid hm
    have HE2 := hid (show xs ++ paceIn (fun rest tok => pace r b m (k + 1) rest (min (tok + r * 1) b)) k (ls.drop xs.length) tok = RES by have := HE.out; rwa [show N - k = m + 1 by omega] at this)
    clear HE hm
    go_wp2
    go_loopw [7] (fun vo wr2 => ∃ (tok : Int) (xs : List Int), Slot (w.heap.size + 1) wr2 3 1 vo xs.length (xs.map (Value.int .i64)) ∧ 0 ≤ tok ∧ tok ≤ b ∧ Ex w wr2 ∧ wr2.heap[w.heap.size]? = some (.cells #[.int .i64 r, .int .i64 b, .int .i64 tok] 32 (0, 0)) ∧ xs.length ≤ ls.length ∧
      xs ++ paceIn (fun rest tok => pace r b m (k + 1) rest (min (tok + r * 1) b)) k (ls.drop xs.length) tok = RES ∧ ∀ x ∈ xs, i64ok x) (fun vo _ => ls.length - slenV vo)
    case atStart => exact ⟨tok, xs, HS.out, tk0, tk1, HX.out, HR.out, hxl, HE2.out, HO.out⟩
    case round =>
      clear HX HR HS HE2 HO d0 d1 d2 f0 f1 f2 lr tk0 tk1 hxl
      obtain ⟨tok, xs, hs, tk0, tk1, hx, hr, hxl, he, hok⟩ := hrel
      obtain ⟨a1, c1, rfl, hc1⟩ := hs.form
      have hnb : w.heap.size ∉ (Value.slice a1 xs.length c1).blk := fun h => by have := (hs.blk_lt _ h).1; omega
      have HBL := hid (show ∀ x ∈ (Value.slice a1 xs.length c1).blk, w.heap.size ≤ x from fun x hx => by have := (hs.blk_lt _ hx).1; omega)
      have d0 : wr.cell? ⟨w.heap.size, 0, none⟩ = some (.int .i64 r) := by rw [cell_row hr]; rfl
      have d1 : wr.cell? ⟨w.heap.size, 1, none⟩ = some (.int .i64 b) := by rw [cell_row hr]; rfl
      have d2 : wr.cell? ⟨w.heap.size, 2, none⟩ = some (.int .i64 tok) := by rw [cell_row hr]; rfl
      have f0 := frozen_row hr 0
      have f1 := frozen_row hr 1
      have f2 := frozen_row hr 2
      have lr := row_lt hr
      have HR := hid hr
      have HX := hid hx
      have HS := hid hs
      have HE := hid he
      have HO := hid hok
      clear hr hx hs he hok
      have HK := hid (bok_mk H1.out tk0 tk1)
      by_cases hq : xs.length < ls.length
      case neg =>
        have HE3 := hid (show xs ++ pace r b m (k + 1) (ls.drop xs.length) (min (tok + r * 1) b) = RES by have h := HE.out; rw [List.drop_of_length_le (by omega)] at h ⊢; exact h)
        clear HE
        obtain ⟨u, hu⟩ : ∃ u, u = min (tok + r * 1) b := ⟨_, rfl⟩
        have HU := hid hu
        obtain ⟨hu0, hu1⟩ : 0 ≤ u ∧ u ≤ b := by omega
        clear hu
        go_wp2_with (first
              | (go_at_call 26; (with_reducible refine (refill_one _ _ _ HK.out HU.out _).mono ?_); rintro e w' ⟨rfl, hx⟩; obtain ⟨g, rfl⟩ := hx))
        go_roundw
        case rel => exact ⟨k + 1, u, xs, by go_num, by omega, (by repeat (first | (with_reducible exact HS.out) | (with_reducible refine Slot.plus ?_ _) | (with_reducible refine Slot.drew ?_) | (with_reducible refine Slot.alloc ?_ _) | (with_reducible refine Slot.setLo ?_ (by first | (simp; done) | omega | (simp; omega)) _) | (with_reducible refine Slot.updN ?_ (by assumption)))), hu0, hu1, (by repeat (first | (with_reducible exact HX.out) | (with_reducible refine Ex.plus ?_ _) | (with_reducible refine Ex.drew ?_) | (with_reducible refine Ex.alloc ?_ _) | (with_reducible refine Ex.upd1 ?_ (by first | assumption | omega | (simp; done) | (simp; omega))) | (with_reducible refine Ex.setCell ?_ (by first | assumption | omega | (simp; done) | (simp; omega)) _) | (with_reducible refine Ex.upd ?_ HBL.out))), (by (repeat (first | (with_reducible refine row_plus ?_) | (with_reducible refine row_drew ?_) | (with_reducible exact row_allocN (by first | assumption | (simp; done) | (simp; omega))) | (with_reducible refine row_allocO ?_) | (with_reducible refine row_updN (by first | assumption | exact Ne.symm (by assumption) | (simp; omega)) ?_) | (with_reducible refine row_setO (by first | assumption | exact Ne.symm (by assumption) | (simp; omega)) ?_) | (with_reducible refine row_updO (by assumption) ?_))); try exact row_set3 HR.out), hxl, by rw [show N - (k + 1) = m by have := HM.out; omega, HU.out]; exact HE3.out, HO.out⟩
        case measure => simp [intOf]; omega
      case pos =>
        obtain ⟨bl, off, rfl, hc⟩ := M3.out _ hq
        have hbl : bl < w.heap.size := World.block_lt_of_cell? _ _ hc
        replace hc := (HX.out.cell hbl).trans hc
        have hd : ls.drop xs.length = ls[xs.length] :: ls.drop (xs.length + 1) := List.drop_eq_getElem_cons hq
        have hbl2 := World.block_lt_of_cell? _ _ hc
        have HD := hid hd
        clear hd
        generalize ls[xs.length] = y at *
        cases hy : inB y 0 tok
        case false =>
          have HE3 := hid (show xs ++ pace r b m (k + 1) (ls.drop xs.length) (min (tok + r * 1) b) = RES by have h := HE.out; rw [HD.out, paceIn, hy] at h; rw [HD.out]; exact h)
          have HY := hid hy
          clear HE hy
          go_wp2_with fail
          refine wp_region_plan (fun w' => ∃ g, w' = World.plus _ g) (.early 0 (.early 1 (.early 2 (.early 3 (.early 4 (.early 5 (.fork 6 1 (.early 7 (.early 8 (.early 9 (.forced 10 1 (.forced 11 1 (.early 12 .done)))))) 10 1 (.forced 6 1 (.early 7 (.early 8 (.early 9 (.forced 11 1 (.early 12 .done))))))))))))) (⟨_, World.drew_is_plus _⟩) (by kernel_rfl) (by kernel_rfl) ?_
          first | refine wpPlan_skipE rfl rfl ?_ | (refine wpPlan_early rfl rfl ?_; intro K hK; go_big_quiet_op; go_big_quiet_on)
          first | refine wpPlan_skipE rfl rfl ?_ | (refine wpPlan_early rfl rfl ?_; intro K hK; go_big_quiet_op; go_big_quiet_on)
          first | refine wpPlan_skipE rfl rfl ?_ | (refine wpPlan_early rfl rfl ?_; intro K hK; go_big_quiet_op; go_big_quiet_on)
          first | refine wpPlan_skipE rfl rfl ?_ | (refine wpPlan_early rfl rfl ?_; intro K hK; go_big_quiet_op; go_big_quiet_on)
          first | refine wpPlan_skipE rfl rfl ?_ | (refine wpPlan_early rfl rfl ?_; intro K hK; go_big_quiet_op; go_big_quiet_on)
          first | refine wpPlan_skipE rfl rfl ?_ | (refine wpPlan_early rfl rfl ?_; intro K hK; go_big_quiet_op; go_big_quiet_on)
          refine wpPlan_fork ?_ ?_
          first | refine wpOne_skip rfl rfl ?_ | (refine wpOne_1 rfl rfl ?_; intro K hK; go_simp; (try (first | (go_at_call 25; (with_reducible refine (spend_n _ _ _ _ HK.out HY.out _).mono ?_); rintro e w' ⟨rfl, hx⟩; obtain ⟨g, rfl⟩ := hx))); (try go_simp); refine hK _ _ (show Ex _ _ from (by repeat (first | (with_reducible exact Ex.refl _) | (with_reducible apply Ex.drew) | (with_reducible apply Ex.plus_add) | (with_reducible apply Ex.plus_drew) | (with_reducible apply Ex.plus) | (with_reducible apply Ex.alloc) | (with_reducible refine Ex.upd1 ?_ (by first | (simp; done) | omega | (simp; omega))) | (with_reducible refine Ex.setCell ?_ (by first | (simp; done) | omega | (simp; omega)) _)))) ?_; clear hK K)
          first | refine wpPlan_skipE rfl rfl ?_ | (refine wpPlan_early rfl rfl ?_; intro K hK; go_big_quiet_op; go_big_quiet_on)
          first | refine wpPlan_skipE rfl rfl ?_ | (refine wpPlan_early rfl rfl ?_; intro K hK; go_big_quiet_op; go_big_quiet_on)
          first | refine wpPlan_skipE rfl rfl ?_ | (refine wpPlan_early rfl rfl ?_; intro K hK; go_big_quiet_op; go_big_quiet_on)
          refine wpPlan_forced ?_
          first | refine wpOne_skip rfl rfl ?_ | (refine wpOne_1 rfl rfl ?_; intro K hK; go_simp; (try (first | (go_at_call 25; (with_reducible refine (spend_n _ _ _ _ HK.out HY.out _).mono ?_); rintro e w' ⟨rfl, hx⟩; obtain ⟨g, rfl⟩ := hx))); (try go_simp); refine hK _ _ (show Ex _ _ from (by repeat (first | (with_reducible exact Ex.refl _) | (with_reducible apply Ex.drew) | (with_reducible apply Ex.plus_add) | (with_reducible apply Ex.plus_drew) | (with_reducible apply Ex.plus) | (with_reducible apply Ex.alloc) | (with_reducible refine Ex.upd1 ?_ (by first | (simp; done) | omega | (simp; omega))) | (with_reducible refine Ex.setCell ?_ (by first | (simp; done) | omega | (simp; omega)) _)))) ?_; clear hK K)
          refine wpPlan_forced ?_
          first | refine wpOne_skip rfl rfl ?_ | (refine wpOne_1 rfl rfl ?_; intro K hK; go_simp; (try (first | (go_at_call 25; (with_reducible refine (spend_n _ _ _ _ HK.out HY.out _).mono ?_); rintro e w' ⟨rfl, hx⟩; obtain ⟨g, rfl⟩ := hx))); (try go_simp); refine hK _ _ (show Ex _ _ from (by repeat (first | (with_reducible exact Ex.refl _) | (with_reducible apply Ex.drew) | (with_reducible apply Ex.plus_add) | (with_reducible apply Ex.plus_drew) | (with_reducible apply Ex.plus) | (with_reducible apply Ex.alloc) | (with_reducible refine Ex.upd1 ?_ (by first | (simp; done) | omega | (simp; omega))) | (with_reducible refine Ex.setCell ?_ (by first | (simp; done) | omega | (simp; omega)) _)))) ?_; clear hK K)
          first | refine wpPlan_skipE rfl rfl ?_ | (refine wpPlan_early rfl rfl ?_; intro K hK; go_big_quiet_op; go_big_quiet_on)
          refine wpPlan_done ?_
          rotate_left 1
          first | refine wpOne_skip rfl rfl ?_ | (refine wpOne_1 rfl rfl ?_; intro K hK; go_simp; (try (first | (go_at_call 25; (with_reducible refine (spend_n _ _ _ _ HK.out HY.out _).mono ?_); rintro e w' ⟨rfl, hx⟩; obtain ⟨g, rfl⟩ := hx))); (try go_simp); refine hK _ _ (show Ex _ _ from (by repeat (first | (with_reducible exact Ex.refl _) | (with_reducible apply Ex.drew) | (with_reducible apply Ex.plus_add) | (with_reducible apply Ex.plus_drew) | (with_reducible apply Ex.plus) | (with_reducible apply Ex.alloc) | (with_reducible refine Ex.upd1 ?_ (by first | (simp; done) | omega | (simp; omega))) | (with_reducible refine Ex.setCell ?_ (by first | (simp; done) | omega | (simp; omega)) _)))) ?_; clear hK K)
          refine wpPlan_forced ?_
          first | refine wpOne_skip rfl rfl ?_ | (refine wpOne_1 rfl rfl ?_; intro K hK; go_simp; (try (first | (go_at_call 25; (with_reducible refine (spend_n _ _ _ _ HK.out HY.out _).mono ?_); rintro e w' ⟨rfl, hx⟩; obtain ⟨g, rfl⟩ := hx))); (try go_simp); refine hK _ _ (show Ex _ _ from (by repeat (first | (with_reducible exact Ex.refl _) | (with_reducible apply Ex.drew) | (with_reducible apply Ex.plus_add) | (with_reducible apply Ex.plus_drew) | (with_reducible apply Ex.plus) | (with_reducible apply Ex.alloc) | (with_reducible refine Ex.upd1 ?_ (by first | (simp; done) | omega | (simp; omega))) | (with_reducible refine Ex.setCell ?_ (by first | (simp; done) | omega | (simp; omega)) _)))) ?_; clear hK K)
          first | refine wpPlan_skipE rfl rfl ?_ | (refine wpPlan_early rfl rfl ?_; intro K hK; go_big_quiet_op; go_big_quiet_on)
          first | refine wpPlan_skipE rfl rfl ?_ | (refine wpPlan_early rfl rfl ?_; intro K hK; go_big_quiet_op; go_big_quiet_on)
          first | refine wpPlan_skipE rfl rfl ?_ | (refine wpPlan_early rfl rfl ?_; intro K hK; go_big_quiet_op; go_big_quiet_on)
          refine wpPlan_forced ?_
          first | refine wpOne_skip rfl rfl ?_ | (refine wpOne_1 rfl rfl ?_; intro K hK; go_simp; (try (first | (go_at_call 25; (with_reducible refine (spend_n _ _ _ _ HK.out HY.out _).mono ?_); rintro e w' ⟨rfl, hx⟩; obtain ⟨g, rfl⟩ := hx))); (try go_simp); refine hK _ _ (show Ex _ _ from (by repeat (first | (with_reducible exact Ex.refl _) | (with_reducible apply Ex.drew) | (with_reducible apply Ex.plus_add) | (with_reducible apply Ex.plus_drew) | (with_reducible apply Ex.plus) | (with_reducible apply Ex.alloc) | (with_reducible refine Ex.upd1 ?_ (by first | (simp; done) | omega | (simp; omega))) | (with_reducible refine Ex.setCell ?_ (by first | (simp; done) | omega | (simp; omega)) _)))) ?_; clear hK K)
          first | refine wpPlan_skipE rfl rfl ?_ | (refine wpPlan_early rfl rfl ?_; intro K hK; go_big_quiet_op; go_big_quiet_on)
          refine wpPlan_done ?_
          all_goals
            obtain ⟨u, hu⟩ : ∃ u, u = min (tok + r * 1) b := ⟨_, rfl⟩
            have HU := hid hu
            obtain ⟨hu0, hu1⟩ : 0 ≤ u ∧ u ≤ b := by omega
            clear hu
            go_wp2_with (first
                  | (go_at_call 26; (with_reducible refine (refill_one _ _ _ HK.out HU.out _).mono ?_); rintro e w' ⟨rfl, hx⟩; obtain ⟨g, rfl⟩ := hx))
            go_roundw
            case rel => exact ⟨k + 1, u, xs, by go_num, by omega, (by repeat (first | (with_reducible exact HS.out) | (with_reducible refine Slot.plus ?_ _) | (with_reducible refine Slot.drew ?_) | (with_reducible refine Slot.alloc ?_ _) | (with_reducible refine Slot.setLo ?_ (by first | (simp; done) | omega | (simp; omega)) _) | (with_reducible refine Slot.updN ?_ (by assumption)))), hu0, hu1, (by repeat (first | (with_reducible exact HX.out) | (with_reducible refine Ex.plus ?_ _) | (with_reducible refine Ex.drew ?_) | (with_reducible refine Ex.alloc ?_ _) | (with_reducible refine Ex.upd1 ?_ (by first | assumption | omega | (simp; done) | (simp; omega))) | (with_reducible refine Ex.setCell ?_ (by first | assumption | omega | (simp; done) | (simp; omega)) _) | (with_reducible refine Ex.upd ?_ HBL.out))), (by (repeat (first | (with_reducible refine row_plus ?_) | (with_reducible refine row_drew ?_) | (with_reducible exact row_allocN (by first | assumption | (simp; done) | (simp; omega))) | (with_reducible refine row_allocO ?_) | (with_reducible refine row_updN (by first | assumption | exact Ne.symm (by assumption) | (simp; omega)) ?_) | (with_reducible refine row_setO (by first | assumption | exact Ne.symm (by assumption) | (simp; omega)) ?_) | (with_reducible refine row_updO (by assumption) ?_))); try exact row_set3 HR.out), hxl, by rw [show N - (k + 1) = m by have := HM.out; omega, HU.out]; exact HE3.out, HO.out⟩
            case measure => simp [intOf]; omega
        case true =>
          have HE3 := hid (show xs ++ [(k : Int)] ++ paceIn (fun rest tok => pace r b m (k + 1) rest (min (tok + r * 1) b)) k (ls.drop (xs.length + 1)) (tok - y) = RES by have h := HE.out; rw [HD.out, paceIn, hy] at h; simpa using h)
          obtain ⟨y0, y1⟩ := inB_iff.1 hy
          have HY := hid hy
          clear HE hy
          go_wp2_with fail
          refine wp_region_plan (fun w' => ∃ g, w' = World.plus _ g) (.early 0 (.early 1 (.early 2 (.early 3 (.early 4 (.early 5 (.fork 6 1 (.early 7 (.early 8 (.early 9 (.forced 10 1 (.forced 11 1 (.early 12 .done)))))) 10 1 (.forced 6 1 (.early 7 (.early 8 (.early 9 (.forced 11 1 (.early 12 .done))))))))))))) (⟨_, World.drew_is_plus _⟩) (by kernel_rfl) (by kernel_rfl) ?_
          first | refine wpPlan_skipE rfl rfl ?_ | (refine wpPlan_early rfl rfl ?_; intro K hK; go_big_quiet_op; go_big_quiet_on)
          first | refine wpPlan_skipE rfl rfl ?_ | (refine wpPlan_early rfl rfl ?_; intro K hK; go_big_quiet_op; go_big_quiet_on)
          first | refine wpPlan_skipE rfl rfl ?_ | (refine wpPlan_early rfl rfl ?_; intro K hK; go_big_quiet_op; go_big_quiet_on)
          first | refine wpPlan_skipE rfl rfl ?_ | (refine wpPlan_early rfl rfl ?_; intro K hK; go_big_quiet_op; go_big_quiet_on)
          first | refine wpPlan_skipE rfl rfl ?_ | (refine wpPlan_early rfl rfl ?_; intro K hK; go_big_quiet_op; go_big_quiet_on)
          first | refine wpPlan_skipE rfl rfl ?_ | (refine wpPlan_early rfl rfl ?_; intro K hK; go_big_quiet_op; go_big_quiet_on)
          refine wpPlan_fork ?_ ?_
          first | refine wpOne_skip rfl rfl ?_ | (refine wpOne_1 rfl rfl ?_; intro K hK; go_simp; (try (first | (go_at_call 25; (with_reducible refine (spend_t _ _ _ _ HK.out HY.out _).mono ?_); rintro e w' ⟨rfl, hx⟩; obtain ⟨g, rfl⟩ := hx))); (try go_simp); refine hK _ _ (show Ex _ _ from (by repeat (first | (with_reducible exact Ex.refl _) | (with_reducible apply Ex.drew) | (with_reducible apply Ex.plus_add) | (with_reducible apply Ex.plus_drew) | (with_reducible apply Ex.plus) | (with_reducible apply Ex.alloc) | (with_reducible refine Ex.upd1 ?_ (by first | (simp; done) | omega | (simp; omega))) | (with_reducible refine Ex.setCell ?_ (by first | (simp; done) | omega | (simp; omega)) _)))) ?_; clear hK K)
          first | refine wpPlan_skipE rfl rfl ?_ | (refine wpPlan_early rfl rfl ?_; intro K hK; go_big_quiet_op; go_big_quiet_on)
          first | refine wpPlan_skipE rfl rfl ?_ | (refine wpPlan_early rfl rfl ?_; intro K hK; go_big_quiet_op; go_big_quiet_on)
          first | refine wpPlan_skipE rfl rfl ?_ | (refine wpPlan_early rfl rfl ?_; intro K hK; go_big_quiet_op; go_big_quiet_on)
          refine wpPlan_forced ?_
          first | refine wpOne_skip rfl rfl ?_ | (refine wpOne_1 rfl rfl ?_; intro K hK; go_simp; (try (first | (go_at_call 25; (with_reducible refine (spend_t _ _ _ _ HK.out HY.out _).mono ?_); rintro e w' ⟨rfl, hx⟩; obtain ⟨g, rfl⟩ := hx))); (try go_simp); refine hK _ _ (show Ex _ _ from (by repeat (first | (with_reducible exact Ex.refl _) | (with_reducible apply Ex.drew) | (with_reducible apply Ex.plus_add) | (with_reducible apply Ex.plus_drew) | (with_reducible apply Ex.plus) | (with_reducible apply Ex.alloc) | (with_reducible refine Ex.upd1 ?_ (by first | (simp; done) | omega | (simp; omega))) | (with_reducible refine Ex.setCell ?_ (by first | (simp; done) | omega | (simp; omega)) _)))) ?_; clear hK K)
          refine wpPlan_forced ?_
          first | refine wpOne_skip rfl rfl ?_ | (refine wpOne_1 rfl rfl ?_; intro K hK; go_simp; (try (first | (go_at_call 25; (with_reducible refine (spend_t _ _ _ _ HK.out HY.out _).mono ?_); rintro e w' ⟨rfl, hx⟩; obtain ⟨g, rfl⟩ := hx))); (try go_simp); refine hK _ _ (show Ex _ _ from (by repeat (first | (with_reducible exact Ex.refl _) | (with_reducible apply Ex.drew) | (with_reducible apply Ex.plus_add) | (with_reducible apply Ex.plus_drew) | (with_reducible apply Ex.plus) | (with_reducible apply Ex.alloc) | (with_reducible refine Ex.upd1 ?_ (by first | (simp; done) | omega | (simp; omega))) | (with_reducible refine Ex.setCell ?_ (by first | (simp; done) | omega | (simp; omega)) _)))) ?_; clear hK K)
          first | refine wpPlan_skipE rfl rfl ?_ | (refine wpPlan_early rfl rfl ?_; intro K hK; go_big_quiet_op; go_big_quiet_on)
          refine wpPlan_done ?_
          rotate_left 1
          first | refine wpOne_skip rfl rfl ?_ | (refine wpOne_1 rfl rfl ?_; intro K hK; go_simp; (try (first | (go_at_call 25; (with_reducible refine (spend_t _ _ _ _ HK.out HY.out _).mono ?_); rintro e w' ⟨rfl, hx⟩; obtain ⟨g, rfl⟩ := hx))); (try go_simp); refine hK _ _ (show Ex _ _ from (by repeat (first | (with_reducible exact Ex.refl _) | (with_reducible apply Ex.drew) | (with_reducible apply Ex.plus_add) | (with_reducible apply Ex.plus_drew) | (with_reducible apply Ex.plus) | (with_reducible apply Ex.alloc) | (with_reducible refine Ex.upd1 ?_ (by first | (simp; done) | omega | (simp; omega))) | (with_reducible refine Ex.setCell ?_ (by first | (simp; done) | omega | (simp; omega)) _)))) ?_; clear hK K)
          refine wpPlan_forced ?_
          first | refine wpOne_skip rfl rfl ?_ | (refine wpOne_1 rfl rfl ?_; intro K hK; go_simp; (try (first | (go_at_call 25; (with_reducible refine (spend_t _ _ _ _ HK.out HY.out _).mono ?_); rintro e w' ⟨rfl, hx⟩; obtain ⟨g, rfl⟩ := hx))); (try go_simp); refine hK _ _ (show Ex _ _ from (by repeat (first | (with_reducible exact Ex.refl _) | (with_reducible apply Ex.drew) | (with_reducible apply Ex.plus_add) | (with_reducible apply Ex.plus_drew) | (with_reducible apply Ex.plus) | (with_reducible apply Ex.alloc) | (with_reducible refine Ex.upd1 ?_ (by first | (simp; done) | omega | (simp; omega))) | (with_reducible refine Ex.setCell ?_ (by first | (simp; done) | omega | (simp; omega)) _)))) ?_; clear hK K)
          first | refine wpPlan_skipE rfl rfl ?_ | (refine wpPlan_early rfl rfl ?_; intro K hK; go_big_quiet_op; go_big_quiet_on)
          first | refine wpPlan_skipE rfl rfl ?_ | (refine wpPlan_early rfl rfl ?_; intro K hK; go_big_quiet_op; go_big_quiet_on)
          first | refine wpPlan_skipE rfl rfl ?_ | (refine wpPlan_early rfl rfl ?_; intro K hK; go_big_quiet_op; go_big_quiet_on)
          refine wpPlan_forced ?_
          first | refine wpOne_skip rfl rfl ?_ | (refine wpOne_1 rfl rfl ?_; intro K hK; go_simp; (try (first | (go_at_call 25; (with_reducible refine (spend_t _ _ _ _ HK.out HY.out _).mono ?_); rintro e w' ⟨rfl, hx⟩; obtain ⟨g, rfl⟩ := hx))); (try go_simp); refine hK _ _ (show Ex _ _ from (by repeat (first | (with_reducible exact Ex.refl _) | (with_reducible apply Ex.drew) | (with_reducible apply Ex.plus_add) | (with_reducible apply Ex.plus_drew) | (with_reducible apply Ex.plus) | (with_reducible apply Ex.alloc) | (with_reducible refine Ex.upd1 ?_ (by first | (simp; done) | omega | (simp; omega))) | (with_reducible refine Ex.setCell ?_ (by first | (simp; done) | omega | (simp; omega)) _)))) ?_; clear hK K)
          first | refine wpPlan_skipE rfl rfl ?_ | (refine wpPlan_early rfl rfl ?_; intro K hK; go_big_quiet_op; go_big_quiet_on)
          refine wpPlan_done ?_
          all_goals
            go_wp2_with (first
                  | (at_builtin; refine wpList_app rfl _ _ 33 33 rfl 3 (.int .i64 0) 1 8 Try.underlying33 info_int rfl (w.heap.size + 1) (.slice a1 xs.length c1) xs.length (xs.map (Value.int .i64)) rfl (by repeat (first | (with_reducible exact HS.out) | (with_reducible refine Slot.plus ?_ _) | (with_reducible refine Slot.drew ?_) | (with_reducible refine Slot.alloc ?_ _) | (with_reducible refine Slot.setLo ?_ (by first | (simp; done) | omega | (simp; omega)) _) | (with_reducible refine Slot.updN ?_ (by assumption)))) _ 1 [.int .i64 k] rfl (Src.lone Try.underlying33 #[.int .i64 k] (by intro u hu; simp at hu; subst hu; rfl) _ (row_allocN (by first | (simp; done) | omega | (simp; omega)))) (by unfold maxLen; omega) (by omega) (by first | (simp; done) | omega | (simp; omega)) ?_; intro v' f g9 hs2 hb2))
          all_goals
            obtain ⟨a2, c2, rfl, hc2⟩ := hs2.form
            go_wp2
            go_roundw
            case rel => exact ⟨tok - y, xs ++ [(k : Int)], by rw [List.length_append, List.map_append]; exact hs2, by omega, by omega, (by repeat (first | (with_reducible exact HX.out) | (with_reducible refine Ex.plus ?_ _) | (with_reducible refine Ex.drew ?_) | (with_reducible refine Ex.alloc ?_ _) | (with_reducible refine Ex.upd1 ?_ (by first | assumption | omega | (simp; done) | (simp; omega))) | (with_reducible refine Ex.setCell ?_ (by first | assumption | omega | (simp; done) | (simp; omega)) _) | (with_reducible refine Ex.upd ?_ HBL.out))), (by (repeat (first | (with_reducible refine row_plus ?_) | (with_reducible refine row_drew ?_) | (with_reducible exact row_allocN (by first | assumption | (simp; done) | (simp; omega))) | (with_reducible refine row_allocO ?_) | (with_reducible refine row_updN (by first | assumption | exact Ne.symm (by assumption) | (simp; omega)) ?_) | (with_reducible refine row_setO (by first | assumption | exact Ne.symm (by assumption) | (simp; omega)) ?_) | (with_reducible refine row_updO (by assumption) ?_))); try exact row_set3 HR.out), by simp; omega, by rw [List.length_append]; exact HE3.out, fun x hx => by rcases List.mem_append.1 hx with hx | hx; exact HO.out x hx; simp at hx; subst hx; unfold i64ok; omega⟩
            case measure => simp [slenV]; omega

set_option maxRecDepth 100000 in
set_option maxHeartbeats 4000000 in
theorem paceS_any (r b t0 : Int) (lv : Value) (ls : List Int) (n : Int) (w : World) (k1 : Holds w ls [lv]) (hl : ls.length ≤ 1048576) :
    Calls Try.prog 28 #[.agg #[.int .i64 r, .int .i64 b, .int .i64 t0], lv, .int .i64 n] w (RetSl w (paceV r b t0 ls n)) := by
  obtain ⟨a, cap, hv, m1, m2, m3, m4⟩ := k1.ints
  simp only [List.cons.injEq, and_true] at hv
  subst hv
  unfold maxLen at m2
  have hRES : ∃ RES, RES = paceV r b t0 ls n := ⟨_, rfl⟩
  obtain ⟨RES, hRES⟩ := hRES
  rw [← hRES]
  cases q1 : bucketOkB r b t0
  case false =>
    have HR := hid (show RES = [] by rw [hRES, paceV, q1]; rfl)
    have H1 := hid q1
    clear q1 hRES m3 m4
    go_enter Try.func28, Try.ntmps28
    go_wp2_with (first
        | (go_at_call 74; (with_reducible refine (bucketOkS_v H1.out _).mono ?_); rintro e w' ⟨rfl, hx⟩; obtain ⟨g, rfl⟩ := hx))
    go_ret
    rw [HR.out]
    exact ⟨_, _, rfl, ((Slot.plus (Slot.madeN (E := 3) (size := 1) (by first | (simp; done) | omega | (simp; omega)) (by first | (simp; done) | omega | (simp; omega))) _).ints (by intro x hx; cases hx)).2, (by repeat (first | (with_reducible exact Ex.refl _) | (with_reducible apply Ex.plus_add) | (with_reducible apply Ex.plus_drew) | (with_reducible apply Ex.plus) | (with_reducible apply Ex.alloc) | (with_reducible apply Ex.drew)))⟩
  case true =>
  cases q2 : inB n 0 1000
  case false =>
    have HR := hid (show RES = [] by rw [hRES, paceV, q1, q2]; rfl)
    have H1 := hid q1
    have H2 := hid q2
    clear q1 q2 hRES m3 m4
    go_enter Try.func28, Try.ntmps28
    go_wp2_with (first
        | (go_at_call 74; (with_reducible refine (bucketOkS_v H1.out _).mono ?_); rintro e w' ⟨rfl, hx⟩; obtain ⟨g, rfl⟩ := hx)
        | (go_at_call 75; (with_reducible refine (l01In_v H2.out _).mono ?_); rintro e w' ⟨rfl, rfl⟩))
    go_ret
    rw [HR.out]
    exact ⟨_, _, rfl, ((Slot.plus (Slot.madeN (E := 3) (size := 1) (by first | (simp; done) | omega | (simp; omega)) (by first | (simp; done) | omega | (simp; omega))) _).ints (by intro x hx; cases hx)).2, (by repeat (first | (with_reducible exact Ex.refl _) | (with_reducible apply Ex.plus_add) | (with_reducible apply Ex.plus_drew) | (with_reducible apply Ex.plus) | (with_reducible apply Ex.alloc) | (with_reducible apply Ex.drew)))⟩
  case true =>
  obtain ⟨b1, b2, b3, b4, b5, b6⟩ := bok_bd q1
  obtain ⟨n0, n1⟩ := inB_iff.1 q2
  obtain ⟨N, rfl⟩ := Int.eq_ofNat_of_zero_le n0
  have hE : pace r b N 0 ls t0 = RES := by rw [hRES, paceV, q1, q2]; rfl
  have H1 := hid q1
  have H2 := hid q2
  have HE0 := hid hE
  have M3 := hid m3
  clear q1 q2 hRES hE m3 m4
  go_enter Try.func28, Try.ntmps28
  go_wp2_with (first
        | (go_at_call 74; (with_reducible refine (bucketOkS_v H1.out _).mono ?_); rintro e w' ⟨rfl, hx⟩; obtain ⟨g, rfl⟩ := hx)
        | (go_at_call 75; (with_reducible refine (l01In_v H2.out _).mono ?_); rintro e w' ⟨rfl, rfl⟩))
  go_loopw [7, 8] (fun vo q wr => ∃ (k : Nat) (tok : Int) (xs : List Int), q = .int .i64 k ∧ k ≤ N ∧ Slot (w.heap.size + 1) wr 3 1 vo xs.length (xs.map (Value.int .i64)) ∧ 0 ≤ tok ∧ tok ≤ b ∧ Ex w wr ∧ wr.heap[w.heap.size]? = some (.cells #[.int .i64 r, .int .i64 b, .int .i64 tok] 32 (0, 0)) ∧ xs.length ≤ ls.length ∧
    xs ++ pace r b (N - k) k (ls.drop xs.length) tok = RES ∧ ∀ x ∈ xs, i64ok x) (fun _ q _ => N - (intOf q).toNat)
  case atStart =>
    exact ⟨0, t0, [], rfl, Nat.zero_le _, (by repeat (first | (with_reducible refine Slot.plus ?_ _) | exact Slot.madeN (by first | (simp; done) | omega | (simp; omega)) (by omega))), b5, b6, (by repeat (first | (with_reducible exact Ex.refl _) | (with_reducible refine Ex.plus ?_ _) | (with_reducible refine Ex.drew ?_) | (with_reducible refine Ex.alloc ?_ _) | (with_reducible refine Ex.upd1 ?_ (by first | assumption | omega | (simp; done) | (simp; omega))) | (with_reducible refine Ex.setCell ?_ (by first | assumption | omega | (simp; done) | (simp; omega)) _) | (with_reducible refine Ex.upd ?_ HBL.out))), (by (repeat (first | (with_reducible refine row_plus ?_) | (with_reducible refine row_drew ?_) | (with_reducible exact row_allocN (by first | assumption | (simp; done) | (simp; omega))) | (with_reducible refine row_allocO ?_) | (with_reducible refine row_updN (by first | assumption | exact Ne.symm (by assumption) | (simp; omega)) ?_) | (with_reducible refine row_setO (by first | assumption | exact Ne.symm (by assumption) | (simp; omega)) ?_) | (with_reducible refine row_updO (by assumption) ?_))); try exact rfl), Nat.zero_le _, HE0.out, fun x hx => by cases hx⟩
  case round =>
    obtain ⟨k, tok, xs, rfl, hk, hs, tk0, tk1, hx, hr, hxl, he, hok⟩ := hrel
    by_cases hlt : k < N
    case neg =>
      obtain rfl : k = N := by omega
      rw [Nat.sub_self] at he
      have d0 : wr.cell? ⟨w.heap.size, 0, none⟩ = some (.int .i64 r) := by rw [cell_row hr]; rfl
      have d1 : wr.cell? ⟨w.heap.size, 1, none⟩ = some (.int .i64 b) := by rw [cell_row hr]; rfl
      have d2 : wr.cell? ⟨w.heap.size, 2, none⟩ = some (.int .i64 tok) := by rw [cell_row hr]; rfl
      have f0 := frozen_row hr 0
      have f1 := frozen_row hr 1
      have f2 := frozen_row hr 2
      have lr := row_lt hr
      have HR := hid hr
      have HX := hid hx
      have HS := hid hs
      have HE := hid he
      have HO := hid hok
      clear hr hx hs he hok
      go_wp2
      go_loopw [7] (fun vo wr3 => ∃ xs : List Int, Slot (w.heap.size + 1) wr3 3 1 vo xs.length (xs.map (Value.int .i64)) ∧ Ex w wr3 ∧ w.heap.size < wr3.heap.size ∧ xs.length ≤ ls.length ∧ xs ++ (ls.drop xs.length).map (fun _ => -1) = RES ∧ ∀ x ∈ xs, i64ok x) (fun vo _ => ls.length - slenV vo)
      case atStart => exact ⟨xs, HS.out, HX.out, lr, hxl, HE.out, HO.out⟩
      case round =>
        clear HX HR HS HE HO d0 d1 d2 f0 f1 f2 lr hxl
        obtain ⟨xs, hs, hx, lx, hxl, he, hok⟩ := hrel
        obtain ⟨a1, c1, rfl, hc1⟩ := hs.form
        have hnb : w.heap.size ∉ (Value.slice a1 xs.length c1).blk := fun h => by have := (hs.blk_lt _ h).1; omega
        have HBL := hid (show ∀ x ∈ (Value.slice a1 xs.length c1).blk, w.heap.size ≤ x from fun x hx => by have := (hs.blk_lt _ hx).1; omega)
        have HX := hid hx
        have HS := hid hs
        have HE := hid he
        have HO := hid hok
        clear hx hs he hok
        by_cases hq : xs.length < ls.length
        case pos =>
          go_wp2_with (first
            | (at_builtin; refine wpList_app rfl _ _ 33 33 rfl 3 (.int .i64 0) 1 8 Try.underlying33 info_int rfl (w.heap.size + 1) (.slice a1 xs.length c1) xs.length (xs.map (Value.int .i64)) rfl (by repeat (first | (with_reducible exact HS.out) | (with_reducible refine Slot.plus ?_ _) | (with_reducible refine Slot.drew ?_) | (with_reducible refine Slot.alloc ?_ _) | (with_reducible refine Slot.setLo ?_ (by first | (simp; done) | omega | (simp; omega)) _) | (with_reducible refine Slot.updN ?_ (by assumption)))) _ 1 [.int .i64 (-1)] rfl (Src.lone Try.underlying33 #[.int .i64 (-1)] (by intro u hu; simp at hu; subst hu; rfl) _ (row_allocN (by first | (simp; done) | omega | (simp; omega)))) (by unfold maxLen; omega) (by omega) (by first | (simp; done) | omega | (simp; omega)) ?_; intro v' f g9 hs2 hb2))
          obtain ⟨a2, c2, rfl, hc2⟩ := hs2.form
          go_wp2
          go_roundw
          case rel => exact ⟨xs ++ [-1], by rw [List.length_append, List.map_append]; exact hs2, (by repeat (first | (with_reducible exact HX.out) | (with_reducible refine Ex.plus ?_ _) | (with_reducible refine Ex.drew ?_) | (with_reducible refine Ex.alloc ?_ _) | (with_reducible refine Ex.upd1 ?_ (by first | assumption | omega | (simp; done) | (simp; omega))) | (with_reducible refine Ex.setCell ?_ (by first | assumption | omega | (simp; done) | (simp; omega)) _) | (with_reducible refine Ex.upd ?_ HBL.out))), by simp; omega, by simp; omega, by have h := HE.out; rw [map_neg_drop _ _ hq] at h; simpa using h, fun x hx => by rcases List.mem_append.1 hx with hx | hx; exact HO.out x hx; simp at hx; subst hx; unfold i64ok; omega⟩
          case measure => simp [slenV]; omega
        case neg =>
          have h := HE.out
          rw [List.drop_of_length_le (by omega)] at h
          simp at h
          subst h
          go_wp2
          go_ret
          exact ⟨_, _, rfl, (HS.out.ints HO.out).2.lower (by omega), HX.out⟩
    case pos =>
    have d0 : wr.cell? ⟨w.heap.size, 0, none⟩ = some (.int .i64 r) := by rw [cell_row hr]; rfl
    have d1 : wr.cell? ⟨w.heap.size, 1, none⟩ = some (.int .i64 b) := by rw [cell_row hr]; rfl
    have d2 : wr.cell? ⟨w.heap.size, 2, none⟩ = some (.int .i64 tok) := by rw [cell_row hr]; rfl
    have f0 := frozen_row hr 0
    have f1 := frozen_row hr 1
    have f2 := frozen_row hr 2
    have lr := row_lt hr
    have HR := hid hr
    have HX := hid hx
    have HS := hid hs
    have HE := hid he
    have HO := hid hok
    clear hr hx hs he hok
    obtain ⟨m, hm⟩ : ∃ m, N = k + (m + 1) := ⟨N - k - 1, by omega⟩
    have HM := hid hm
    have HE2 := hid (show xs ++ paceIn (fun rest tok => pace r b m (k + 1) rest (min (tok + r * 1) b)) k (ls.drop xs.length) tok = RES by have := HE.out; rwa [show N - k = m + 1 by omega] at this)
    clear HE hm
    go_wp2
    go_loopw [7] (fun vo wr2 => ∃ (tok : Int) (xs : List Int), Slot (w.heap.size + 1) wr2 3 1 vo xs.length (xs.map (Value.int .i64)) ∧ 0 ≤ tok ∧ tok ≤ b ∧ Ex w wr2 ∧ wr2.heap[w.heap.size]? = some (.cells #[.int .i64 r, .int .i64 b, .int .i64 tok] 32 (0, 0)) ∧ xs.length ≤ ls.length ∧
      xs ++ paceIn (fun rest tok => pace r b m (k + 1) rest (min (tok + r * 1) b)) k (ls.drop xs.length) tok = RES ∧ ∀ x ∈ xs, i64ok x) (fun vo _ => ls.length - slenV vo)
    case atStart => exact ⟨tok, xs, HS.out, tk0, tk1, HX.out, HR.out, hxl, HE2.out, HO.out⟩
    case round =>
      clear HX HR HS HE2 HO d0 d1 d2 f0 f1 f2 lr tk0 tk1 hxl
      obtain ⟨tok, xs, hs, tk0, tk1, hx, hr, hxl, he, hok⟩ := hrel
      obtain ⟨a1, c1, rfl, hc1⟩ := hs.form
      have hnb : w.heap.size ∉ (Value.slice a1 xs.length c1).blk := fun h => by have := (hs.blk_lt _ h).1; omega
      have HBL := hid (show ∀ x ∈ (Value.slice a1 xs.length c1).blk, w.heap.size ≤ x from fun x hx => by have := (hs.blk_lt _ hx).1; omega)
      have d0 : wr.cell? ⟨w.heap.size, 0, none⟩ = some (.int .i64 r) := by rw [cell_row hr]; rfl
      have d1 : wr.cell? ⟨w.heap.size, 1, none⟩ = some (.int .i64 b) := by rw [cell_row hr]; rfl
      have d2 : wr.cell? ⟨w.heap.size, 2, none⟩ = some (.int .i64 tok) := by rw [cell_row hr]; rfl
      have f0 := frozen_row hr 0
      have f1 := frozen_row hr 1
      have f2 := frozen_row hr 2
      have lr := row_lt hr
      have HR := hid hr
      have HX := hid hx
      have HS := hid hs
      have HE := hid he
      have HO := hid hok
      clear hr hx hs he hok
      have HK := hid (bok_mk H1.out tk0 tk1)
      by_cases hq : xs.length < ls.length
      case neg =>
        have HE3 := hid (show xs ++ pace r b m (k + 1) (ls.drop xs.length) (min (tok + r * 1) b) = RES by have h := HE.out; rw [List.drop_of_length_le (by omega)] at h ⊢; exact h)
        clear HE
        obtain ⟨u, hu⟩ : ∃ u, u = min (tok + r * 1) b := ⟨_, rfl⟩
        have HU := hid hu
        obtain ⟨hu0, hu1⟩ : 0 ≤ u ∧ u ≤ b := by omega
        clear hu
        go_wp2_with (first
              | (go_at_call 77; (with_reducible refine (refillS_one _ _ _ HK.out HU.out _).mono ?_); rintro e w' ⟨rfl, hx⟩; obtain ⟨g, rfl⟩ := hx))
        go_roundw
        case rel => exact ⟨k + 1, u, xs, by go_num, by omega, (by repeat (first | (with_reducible exact HS.out) | (with_reducible refine Slot.plus ?_ _) | (with_reducible refine Slot.drew ?_) | (with_reducible refine Slot.alloc ?_ _) | (with_reducible refine Slot.setLo ?_ (by first | (simp; done) | omega | (simp; omega)) _) | (with_reducible refine Slot.updN ?_ (by assumption)))), hu0, hu1, (by repeat (first | (with_reducible exact HX.out) | (with_reducible refine Ex.plus ?_ _) | (with_reducible refine Ex.drew ?_) | (with_reducible refine Ex.alloc ?_ _) | (with_reducible refine Ex.upd1 ?_ (by first | assumption | omega | (simp; done) | (simp; omega))) | (with_reducible refine Ex.setCell ?_ (by first | assumption | omega | (simp; done) | (simp; omega)) _) | (with_reducible refine Ex.upd ?_ HBL.out))), (by (repeat (first | (with_reducible refine row_plus ?_) | (with_reducible refine row_drew ?_) | (with_reducible exact row_allocN (by first | assumption | (simp; done) | (simp; omega))) | (with_reducible refine row_allocO ?_) | (with_reducible refine row_updN (by first | assumption | exact Ne.symm (by assumption) | (simp; omega)) ?_) | (with_reducible refine row_setO (by first | assumption | exact Ne.symm (by assumption) | (simp; omega)) ?_) | (with_reducible refine row_updO (by assumption) ?_))); try exact row_set3 HR.out), hxl, by rw [show N - (k + 1) = m by have := HM.out; omega, HU.out]; exact HE3.out, HO.out⟩
        case measure => simp [intOf]; omega
      case pos =>
        obtain ⟨bl, off, rfl, hc⟩ := M3.out _ hq
        have hbl : bl < w.heap.size := World.block_lt_of_cell? _ _ hc
        replace hc := (HX.out.cell hbl).trans hc
        have hd : ls.drop xs.length = ls[xs.length] :: ls.drop (xs.length + 1) := List.drop_eq_getElem_cons hq
        have hbl2 := World.block_lt_of_cell? _ _ hc
        have HD := hid hd
        clear hd
        generalize ls[xs.length] = y at *
        cases hy : inB y 0 tok
        case false =>
          have HE3 := hid (show xs ++ pace r b m (k + 1) (ls.drop xs.length) (min (tok + r * 1) b) = RES by have h := HE.out; rw [HD.out, paceIn, hy] at h; rw [HD.out]; exact h)
          have HY := hid hy
          clear HE hy
          go_wp2_with fail
          refine wp_region_plan (fun w' => ∃ g, w' = World.plus _ g) (.early 0 (.early 1 (.early 2 (.early 3 (.early 4 (.early 5 (.fork 6 1 (.early 7 (.early 8 (.early 9 (.forced 10 1 (.forced 11 1 (.early 12 .done)))))) 10 1 (.forced 6 1 (.early 7 (.early 8 (.early 9 (.forced 11 1 (.early 12 .done))))))))))))) (⟨_, World.drew_is_plus _⟩) (by kernel_rfl) (by kernel_rfl) ?_
          first | refine wpPlan_skipE rfl rfl ?_ | (refine wpPlan_early rfl rfl ?_; intro K hK; go_big_quiet_op; go_big_quiet_on)
          first | refine wpPlan_skipE rfl rfl ?_ | (refine wpPlan_early rfl rfl ?_; intro K hK; go_big_quiet_op; go_big_quiet_on)
          first | refine wpPlan_skipE rfl rfl ?_ | (refine wpPlan_early rfl rfl ?_; intro K hK; go_big_quiet_op; go_big_quiet_on)
          first | refine wpPlan_skipE rfl rfl ?_ | (refine wpPlan_early rfl rfl ?_; intro K hK; go_big_quiet_op; go_big_quiet_on)
          first | refine wpPlan_skipE rfl rfl ?_ | (refine wpPlan_early rfl rfl ?_; intro K hK; go_big_quiet_op; go_big_quiet_on)
          first | refine wpPlan_skipE rfl rfl ?_ | (refine wpPlan_early rfl rfl ?_; intro K hK; go_big_quiet_op; go_big_quiet_on)
          refine wpPlan_fork ?_ ?_
          first | refine wpOne_skip rfl rfl ?_ | (refine wpOne_1 rfl rfl ?_; intro K hK; go_simp; (try (first | (go_at_call 76; (with_reducible refine (spendS_n _ _ _ _ HK.out HY.out _).mono ?_); rintro e w' ⟨rfl, hx⟩; obtain ⟨g, rfl⟩ := hx))); (try go_simp); refine hK _ _ (show Ex _ _ from (by repeat (first | (with_reducible exact Ex.refl _) | (with_reducible apply Ex.drew) | (with_reducible apply Ex.plus_add) | (with_reducible apply Ex.plus_drew) | (with_reducible apply Ex.plus) | (with_reducible apply Ex.alloc) | (with_reducible refine Ex.upd1 ?_ (by first | (simp; done) | omega | (simp; omega))) | (with_reducible refine Ex.setCell ?_ (by first | (simp; done) | omega | (simp; omega)) _)))) ?_; clear hK K)
          first | refine wpPlan_skipE rfl rfl ?_ | (refine wpPlan_early rfl rfl ?_; intro K hK; go_big_quiet_op; go_big_quiet_on)
          first | refine wpPlan_skipE rfl rfl ?_ | (refine wpPlan_early rfl rfl ?_; intro K hK; go_big_quiet_op; go_big_quiet_on)
          first | refine wpPlan_skipE rfl rfl ?_ | (refine wpPlan_early rfl rfl ?_; intro K hK; go_big_quiet_op; go_big_quiet_on)
          refine wpPlan_forced ?_
          first | refine wpOne_skip rfl rfl ?_ | (refine wpOne_1 rfl rfl ?_; intro K hK; go_simp; (try (first | (go_at_call 76; (with_reducible refine (spendS_n _ _ _ _ HK.out HY.out _).mono ?_); rintro e w' ⟨rfl, hx⟩; obtain ⟨g, rfl⟩ := hx))); (try go_simp); refine hK _ _ (show Ex _ _ from (by repeat (first | (with_reducible exact Ex.refl _) | (with_reducible apply Ex.drew) | (with_reducible apply Ex.plus_add) | (with_reducible apply Ex.plus_drew) | (with_reducible apply Ex.plus) | (with_reducible apply Ex.alloc) | (with_reducible refine Ex.upd1 ?_ (by first | (simp; done) | omega | (simp; omega))) | (with_reducible refine Ex.setCell ?_ (by first | (simp; done) | omega | (simp; omega)) _)))) ?_; clear hK K)
          refine wpPlan_forced ?_
          first | refine wpOne_skip rfl rfl ?_ | (refine wpOne_1 rfl rfl ?_; intro K hK; go_simp; (try (first | (go_at_call 76; (with_reducible refine (spendS_n _ _ _ _ HK.out HY.out _).mono ?_); rintro e w' ⟨rfl, hx⟩; obtain ⟨g, rfl⟩ := hx))); (try go_simp); refine hK _ _ (show Ex _ _ from (by repeat (first | (with_reducible exact Ex.refl _) | (with_reducible apply Ex.drew) | (with_reducible apply Ex.plus_add) | (with_reducible apply Ex.plus_drew) | (with_reducible apply Ex.plus) | (with_reducible apply Ex.alloc) | (with_reducible refine Ex.upd1 ?_ (by first | (simp; done) | omega | (simp; omega))) | (with_reducible refine Ex.setCell ?_ (by first | (simp; done) | omega | (simp; omega)) _)))) ?_; clear hK K)
          first | refine wpPlan_skipE rfl rfl ?_ | (refine wpPlan_early rfl rfl ?_; intro K hK; go_big_quiet_op; go_big_quiet_on)
          refine wpPlan_done ?_
          rotate_left 1
          first | refine wpOne_skip rfl rfl ?_ | (refine wpOne_1 rfl rfl ?_; intro K hK; go_simp; (try (first | (go_at_call 76; (with_reducible refine (spendS_n _ _ _ _ HK.out HY.out _).mono ?_); rintro e w' ⟨rfl, hx⟩; obtain ⟨g, rfl⟩ := hx))); (try go_simp); refine hK _ _ (show Ex _ _ from (by repeat (first | (with_reducible exact Ex.refl _) | (with_reducible apply Ex.drew) | (with_reducible apply Ex.plus_add) | (with_reducible apply Ex.plus_drew) | (with_reducible apply Ex.plus) | (with_reducible apply Ex.alloc) | (with_reducible refine Ex.upd1 ?_ (by first | (simp; done) | omega | (simp; omega))) | (with_reducible refine Ex.setCell ?_ (by first | (simp; done) | omega | (simp; omega)) _)))) ?_; clear hK K)
          refine wpPlan_forced ?_
          first | refine wpOne_skip rfl rfl ?_ | (refine wpOne_1 rfl rfl ?_; intro K hK; go_simp; (try (first | (go_at_call 76; (with_reducible refine (spendS_n _ _ _ _ HK.out HY.out _).mono ?_); rintro e w' ⟨rfl, hx⟩; obtain ⟨g, rfl⟩ := hx))); (try go_simp); refine hK _ _ (show Ex _ _ from (by repeat (first | (with_reducible exact Ex.refl _) | (with_reducible apply Ex.drew) | (with_reducible apply Ex.plus_add) | (with_reducible apply Ex.plus_drew) | (with_reducible apply Ex.plus) | (with_reducible apply Ex.alloc) | (with_reducible refine Ex.upd1 ?_ (by first | (simp; done) | omega | (simp; omega))) | (with_reducible refine Ex.setCell ?_ (by first | (simp; done) | omega | (simp; omega)) _)))) ?_; clear hK K)
          first | refine wpPlan_skipE rfl rfl ?_ | (refine wpPlan_early rfl rfl ?_; intro K hK; go_big_quiet_op; go_big_quiet_on)
          first | refine wpPlan_skipE rfl rfl ?_ | (refine wpPlan_early rfl rfl ?_; intro K hK; go_big_quiet_op; go_big_quiet_on)
          first | refine wpPlan_skipE rfl rfl ?_ | (refine wpPlan_early rfl rfl ?_; intro K hK; go_big_quiet_op; go_big_quiet_on)
          refine wpPlan_forced ?_
          first | refine wpOne_skip rfl rfl ?_ | (refine wpOne_1 rfl rfl ?_; intro K hK; go_simp; (try (first | (go_at_call 76; (with_reducible refine (spendS_n _ _ _ _ HK.out HY.out _).mono ?_); rintro e w' ⟨rfl, hx⟩; obtain ⟨g, rfl⟩ := hx))); (try go_simp); refine hK _ _ (show Ex _ _ from (by repeat (first | (with_reducible exact Ex.refl _) | (with_reducible apply Ex.drew) | (with_reducible apply Ex.plus_add) | (with_reducible apply Ex.plus_drew) | (with_reducible apply Ex.plus) | (with_reducible apply Ex.alloc) | (with_reducible refine Ex.upd1 ?_ (by first | (simp; done) | omega | (simp; omega))) | (with_reducible refine Ex.setCell ?_ (by first | (simp; done) | omega | (simp; omega)) _)))) ?_; clear hK K)
          first | refine wpPlan_skipE rfl rfl ?_ | (refine wpPlan_early rfl rfl ?_; intro K hK; go_big_quiet_op; go_big_quiet_on)
          refine wpPlan_done ?_
          all_goals
            obtain ⟨u, hu⟩ : ∃ u, u = min (tok + r * 1) b := ⟨_, rfl⟩
            have HU := hid hu
            obtain ⟨hu0, hu1⟩ : 0 ≤ u ∧ u ≤ b := by omega
            clear hu
            go_wp2_with (first
                  | (go_at_call 77; (with_reducible refine (refillS_one _ _ _ HK.out HU.out _).mono ?_); rintro e w' ⟨rfl, hx⟩; obtain ⟨g, rfl⟩ := hx))
            go_roundw
            case rel => exact ⟨k + 1, u, xs, by go_num, by omega, (by repeat (first | (with_reducible exact HS.out) | (with_reducible refine Slot.plus ?_ _) | (with_reducible refine Slot.drew ?_) | (with_reducible refine Slot.alloc ?_ _) | (with_reducible refine Slot.setLo ?_ (by first | (simp; done) | omega | (simp; omega)) _) | (with_reducible refine Slot.updN ?_ (by assumption)))), hu0, hu1, (by repeat (first | (with_reducible exact HX.out) | (with_reducible refine Ex.plus ?_ _) | (with_reducible refine Ex.drew ?_) | (with_reducible refine Ex.alloc ?_ _) | (with_reducible refine Ex.upd1 ?_ (by first | assumption | omega | (simp; done) | (simp; omega))) | (with_reducible refine Ex.setCell ?_ (by first | assumption | omega | (simp; done) | (simp; omega)) _) | (with_reducible refine Ex.upd ?_ HBL.out))), (by (repeat (first | (with_reducible refine row_plus ?_) | (with_reducible refine row_drew ?_) | (with_reducible exact row_allocN (by first | assumption | (simp; done) | (simp; omega))) | (with_reducible refine row_allocO ?_) | (with_reducible refine row_updN (by first | assumption | exact Ne.symm (by assumption) | (simp; omega)) ?_) | (with_reducible refine row_setO (by first | assumption | exact Ne.symm (by assumption) | (simp; omega)) ?_) | (with_reducible refine row_updO (by assumption) ?_))); try exact row_set3 HR.out), hxl, by rw [show N - (k + 1) = m by have := HM.out; omega, HU.out]; exact HE3.out, HO.out⟩
            case measure => simp [intOf]; omega
        case true =>
          have HE3 := hid (show xs ++ [(k : Int)] ++ paceIn (fun rest tok => pace r b m (k + 1) rest (min (tok + r * 1) b)) k (ls.drop (xs.length + 1)) (tok - y) = RES by have h := HE.out; rw [HD.out, paceIn, hy] at h; simpa using h)
          obtain ⟨y0, y1⟩ := inB_iff.1 hy
          have HY := hid hy
          clear HE hy
          go_wp2_with fail
          refine wp_region_plan (fun w' => ∃ g, w' = World.plus _ g) (.early 0 (.early 1 (.early 2 (.early 3 (.early 4 (.early 5 (.fork 6 1 (.early 7 (.early 8 (.early 9 (.forced 10 1 (.forced 11 1 (.early 12 .done)))))) 10 1 (.forced 6 1 (.early 7 (.early 8 (.early 9 (.forced 11 1 (.early 12 .done))))))))))))) (⟨_, World.drew_is_plus _⟩) (by kernel_rfl) (by kernel_rfl) ?_
          first | refine wpPlan_skipE rfl rfl ?_ | (refine wpPlan_early rfl rfl ?_; intro K hK; go_big_quiet_op; go_big_quiet_on)
          first | refine wpPlan_skipE rfl rfl ?_ | (refine wpPlan_early rfl rfl ?_; intro K hK; go_big_quiet_op; go_big_quiet_on)
          first | refine wpPlan_skipE rfl rfl ?_ | (refine wpPlan_early rfl rfl ?_; intro K hK; go_big_quiet_op; go_big_quiet_on)
          first | refine wpPlan_skipE rfl rfl ?_ | (refine wpPlan_early rfl rfl ?_; intro K hK; go_big_quiet_op; go_big_quiet_on)
          first | refine wpPlan_skipE rfl rfl ?_ | (refine wpPlan_early rfl rfl ?_; intro K hK; go_big_quiet_op; go_big_quiet_on)
          first | refine wpPlan_skipE rfl rfl ?_ | (refine wpPlan_early rfl rfl ?_; intro K hK; go_big_quiet_op; go_big_quiet_on)
          refine wpPlan_fork ?_ ?_
          first | refine wpOne_skip rfl rfl ?_ | (refine wpOne_1 rfl rfl ?_; intro K hK; go_simp; (try (first | (go_at_call 76; (with_reducible refine (spendS_t _ _ _ _ HK.out HY.out _).mono ?_); rintro e w' ⟨rfl, hx⟩; obtain ⟨g, rfl⟩ := hx))); (try go_simp); refine hK _ _ (show Ex _ _ from (by repeat (first | (with_reducible exact Ex.refl _) | (with_reducible apply Ex.drew) | (with_reducible apply Ex.plus_add) | (with_reducible apply Ex.plus_drew) | (with_reducible apply Ex.plus) | (with_reducible apply Ex.alloc) | (with_reducible refine Ex.upd1 ?_ (by first | (simp; done) | omega | (simp; omega))) | (with_reducible refine Ex.setCell ?_ (by first | (simp; done) | omega | (simp; omega)) _)))) ?_; clear hK K)
          first | refine wpPlan_skipE rfl rfl ?_ | (refine wpPlan_early rfl rfl ?_; intro K hK; go_big_quiet_op; go_big_quiet_on)
          first | refine wpPlan_skipE rfl rfl ?_ | (refine wpPlan_early rfl rfl ?_; intro K hK; go_big_quiet_op; go_big_quiet_on)
          first | refine wpPlan_skipE rfl rfl ?_ | (refine wpPlan_early rfl rfl ?_; intro K hK; go_big_quiet_op; go_big_quiet_on)
          refine wpPlan_forced ?_
          first | refine wpOne_skip rfl rfl ?_ | (refine wpOne_1 rfl rfl ?_; intro K hK; go_simp; (try (first | (go_at_call 76; (with_reducible refine (spendS_t _ _ _ _ HK.out HY.out _).mono ?_); rintro e w' ⟨rfl, hx⟩; obtain ⟨g, rfl⟩ := hx))); (try go_simp); refine hK _ _ (show Ex _ _ from (by repeat (first | (with_reducible exact Ex.refl _) | (with_reducible apply Ex.drew) | (with_reducible apply Ex.plus_add) | (with_reducible apply Ex.plus_drew) | (with_reducible apply Ex.plus) | (with_reducible apply Ex.alloc) | (with_reducible refine Ex.upd1 ?_ (by first | (simp; done) | omega | (simp; omega))) | (with_reducible refine Ex.setCell ?_ (by first | (simp; done) | omega | (simp; omega)) _)))) ?_; clear hK K)
          refine wpPlan_forced ?_
          first | refine wpOne_skip rfl rfl ?_ | (refine wpOne_1 rfl rfl ?_; intro K hK; go_simp; (try (first | (go_at_call 76; (with_reducible refine (spendS_t _ _ _ _ HK.out HY.out _).mono ?_); rintro e w' ⟨rfl, hx⟩; obtain ⟨g, rfl⟩ := hx))); (try go_simp); refine hK _ _ (show Ex _ _ from (by repeat (first | (with_reducible exact Ex.refl _) | (with_reducible apply Ex.drew) | (with_reducible apply Ex.plus_add) | (with_reducible apply Ex.plus_drew) | (with_reducible apply Ex.plus) | (with_reducible apply Ex.alloc) | (with_reducible refine Ex.upd1 ?_ (by first | (simp; done) | omega | (simp; omega))) | (with_reducible refine Ex.setCell ?_ (by first | (simp; done) | omega | (simp; omega)) _)))) ?_; clear hK K)
          first | refine wpPlan_skipE rfl rfl ?_ | (refine wpPlan_early rfl rfl ?_; intro K hK; go_big_quiet_op; go_big_quiet_on)
          refine wpPlan_done ?_
          rotate_left 1
          first | refine wpOne_skip rfl rfl ?_ | (refine wpOne_1 rfl rfl ?_; intro K hK; go_simp; (try (first | (go_at_call 76; (with_reducible refine (spendS_t _ _ _ _ HK.out HY.out _).mono ?_); rintro e w' ⟨rfl, hx⟩; obtain ⟨g, rfl⟩ := hx))); (try go_simp); refine hK _ _ (show Ex _ _ from (by repeat (first | (with_reducible exact Ex.refl _) | (with_reducible apply Ex.drew) | (with_reducible apply Ex.plus_add) | (with_reducible apply Ex.plus_drew) | (with_reducible apply Ex.plus) | (with_reducible apply Ex.alloc) | (with_reducible refine Ex.upd1 ?_ (by first | (simp; done) | omega | (simp; omega))) | (with_reducible refine Ex.setCell ?_ (by first | (simp; done) | omega | (simp; omega)) _)))) ?_; clear hK K)
          refine wpPlan_forced ?_
          first | refine wpOne_skip rfl rfl ?_ | (refine wpOne_1 rfl rfl ?_; intro K hK; go_simp; (try (first | (go_at_call 76; (with_reducible refine (spendS_t _ _ _ _ HK.out HY.out _).mono ?_); rintro e w' ⟨rfl, hx⟩; obtain ⟨g, rfl⟩ := hx))); (try go_simp); refine hK _ _ (show Ex _ _ from (by repeat (first | (with_reducible exact Ex.refl _) | (with_reducible apply Ex.drew) | (with_reducible apply Ex.plus_add) | (with_reducible apply Ex.plus_drew) | (with_reducible apply Ex.plus) | (with_reducible apply Ex.alloc) | (with_reducible refine Ex.upd1 ?_ (by first | (simp; done) | omega | (simp; omega))) | (with_reducible refine Ex.setCell ?_ (by first | (simp; done) | omega | (simp; omega)) _)))) ?_; clear hK K)
          first | refine wpPlan_skipE rfl rfl ?_ | (refine wpPlan_early rfl rfl ?_; intro K hK; go_big_quiet_op; go_big_quiet_on)
          first | refine wpPlan_skipE rfl rfl ?_ | (refine wpPlan_early rfl rfl ?_; intro K hK; go_big_quiet_op; go_big_quiet_on)
          first | refine wpPlan_skipE rfl rfl ?_ | (refine wpPlan_early rfl rfl ?_; intro K hK; go_big_quiet_op; go_big_quiet_on)
          refine wpPlan_forced ?_
          first | refine wpOne_skip rfl rfl ?_ | (refine wpOne_1 rfl rfl ?_; intro K hK; go_simp; (try (first | (go_at_call 76; (with_reducible refine (spendS_t _ _ _ _ HK.out HY.out _).mono ?_); rintro e w' ⟨rfl, hx⟩; obtain ⟨g, rfl⟩ := hx))); (try go_simp); refine hK _ _ (show Ex _ _ from (by repeat (first | (with_reducible exact Ex.refl _) | (with_reducible apply Ex.drew) | (with_reducible apply Ex.plus_add) | (with_reducible apply Ex.plus_drew) | (with_reducible apply Ex.plus) | (with_reducible apply Ex.alloc) | (with_reducible refine Ex.upd1 ?_ (by first | (simp; done) | omega | (simp; omega))) | (with_reducible refine Ex.setCell ?_ (by first | (simp; done) | omega | (simp; omega)) _)))) ?_; clear hK K)
          first | refine wpPlan_skipE rfl rfl ?_ | (refine wpPlan_early rfl rfl ?_; intro K hK; go_big_quiet_op; go_big_quiet_on)
          refine wpPlan_done ?_
          all_goals
            go_wp2_with (first
                  | (at_builtin; refine wpList_app rfl _ _ 33 33 rfl 3 (.int .i64 0) 1 8 Try.underlying33 info_int rfl (w.heap.size + 1) (.slice a1 xs.length c1) xs.length (xs.map (Value.int .i64)) rfl (by repeat (first | (with_reducible exact HS.out) | (with_reducible refine Slot.plus ?_ _) | (with_reducible refine Slot.drew ?_) | (with_reducible refine Slot.alloc ?_ _) | (with_reducible refine Slot.setLo ?_ (by first | (simp; done) | omega | (simp; omega)) _) | (with_reducible refine Slot.updN ?_ (by assumption)))) _ 1 [.int .i64 k] rfl (Src.lone Try.underlying33 #[.int .i64 k] (by intro u hu; simp at hu; subst hu; rfl) _ (row_allocN (by first | (simp; done) | omega | (simp; omega)))) (by unfold maxLen; omega) (by omega) (by first | (simp; done) | omega | (simp; omega)) ?_; intro v' f g9 hs2 hb2))
          all_goals
            obtain ⟨a2, c2, rfl, hc2⟩ := hs2.form
            go_wp2
            go_roundw
            case rel => exact ⟨tok - y, xs ++ [(k : Int)], by rw [List.length_append, List.map_append]; exact hs2, by omega, by omega, (by repeat (first | (with_reducible exact HX.out) | (with_reducible refine Ex.plus ?_ _) | (with_reducible refine Ex.drew ?_) | (with_reducible refine Ex.alloc ?_ _) | (with_reducible refine Ex.upd1 ?_ (by first | assumption | omega | (simp; done) | (simp; omega))) | (with_reducible refine Ex.setCell ?_ (by first | assumption | omega | (simp; done) | (simp; omega)) _) | (with_reducible refine Ex.upd ?_ HBL.out))), (by (repeat (first | (with_reducible refine row_plus ?_) | (with_reducible refine row_drew ?_) | (with_reducible exact row_allocN (by first | assumption | (simp; done) | (simp; omega))) | (with_reducible refine row_allocO ?_) | (with_reducible refine row_updN (by first | assumption | exact Ne.symm (by assumption) | (simp; omega)) ?_) | (with_reducible refine row_setO (by first | assumption | exact Ne.symm (by assumption) | (simp; omega)) ?_) | (with_reducible refine row_updO (by assumption) ?_))); try exact row_set3 HR.out), by simp; omega, by rw [List.length_append]; exact HE3.out, fun x hx => by rcases List.mem_append.1 hx with hx | hx; exact HO.out x hx; simp at hx; subst hx; unfold i64ok; omega⟩
            case measure => simp [slenV]; omega

end Go.Proofs.Ytlpipllhbobfbaa
