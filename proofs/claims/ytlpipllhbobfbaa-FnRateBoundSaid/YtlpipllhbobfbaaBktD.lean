/- Drawn buckets and lengths. -/
import Derived.Test.YtlpipllhbobfbaaRows
import Derived.Test.YtlpipllhbobfbaaCur2
import Derived.Test.YtlpipllhbobfbaaCopy
import Derived.Test.YtlpipllhbobfbaaMixB
import Derived.Test.YtlpipllhbobfbaaPlan
import Derived.Test.YtlpipllhbobfbaaScal
namespace Go.Proofs.Ytlpipllhbobfbaa
open Go.RowKit
set_option linter.unusedVariables false

theorem row_set3b {w : World} {b : Nat} {x0 x1 x2 y0 y1 y2 : Value} {E : TypeId} {fr : Nat × Nat} (h : w.heap[b]? = some (.cells #[x0, x1, x2] E fr)) : (((w.setCell ⟨b, 0, none⟩ y0).setCell ⟨b, 1, none⟩ y1).setCell ⟨b, 2, none⟩ y2).heap[b]? = some (.cells #[y0, y1, y2] E fr) := (row_setCell (row_setCell (row_setCell h 0 y0) 1 y1) 2 y2)
def DrawnBkt (T : TypeId) (B : Nat) (v : Value) (n : Nat) (w : World) (e : Ending) (w' : World) : Prop := ∃ (r b t : Int), 0 ≤ r ∧ r ≤ 100 ∧ 0 ≤ b ∧ b ≤ 400 ∧ 0 ≤ t ∧ t ≤ b ∧ e = .returned (.agg #[.int .i64 r, .int .i64 b, .int .i64 t]) ∧ Drw T B v n w w'
def DrawnInts (T : TypeId) (B : Nat) (v : Value) (n : Nat) (w : World) (m : Nat) (lo hi : Int) (e : Ending) (w' : World) : Prop := ∃ (xs : List Int) (a : Option Addr) (c : Nat), xs.length ≤ m ∧ (∀ x ∈ xs, lo ≤ x ∧ x ≤ hi) ∧ e = .returned (.slice a xs.length c) ∧ Owns w.heap.size w' xs [.slice a xs.length c] ∧ Drw T B v n w w'

set_option maxRecDepth 100000 in
set_option maxHeartbeats 4000000 in
theorem l29Bucket_any (B : Nat) (v : Value) (code : List UInt8) (w0 w : World) (hcu : Cu 129 w0 B v code w) :
    Calls Try.prog 71 #[.pointer (some ⟨B, 0, none⟩)] w (DrawnBkt 129 B v code.length w) := by
  have hmv := hcu.mv
  have lB := hcu.lt
  have nwB : w.heap.size ≠ B := by omega
  go_enter Try.func71, Try.ntmps71
  go_wp2_with fail
  (with_reducible refine (l01PickInt_any B v code _ ([0, 1, 7, 30, 100] : List Int) (0) (100) w0 _ (by repeat (first | (with_reducible exact hcu) | (with_reducible refine Cu.plus ?_ _) | (with_reducible refine Cu.alloc ?_ _) | (with_reducible refine Cu.drew ?_) | (with_reducible refine Cu.upd ?_ (by assumption) (by assumption)) | (with_reducible refine Cu.updO ?_ (by first | assumption | omega | (simp; omega)) (by first | assumption | exact Ne.symm (by assumption) | (simp; omega))) | (with_reducible refine Cu.setCell ?_ (by first | assumption | omega | (simp; omega)) (by first | assumption | exact Ne.symm (by assumption) | (simp; omega)) _))) (holds_litN [0, 1, 7, 30, 100] (by (repeat (first | (with_reducible refine row_plus ?_) | (with_reducible refine row_drew ?_) | (with_reducible exact row_allocN (by first | assumption | (simp; done) | (simp; omega))) | (with_reducible refine row_allocO ?_) | (with_reducible refine row_updN (by first | assumption | exact Ne.symm (by assumption) | (simp; omega)) ?_) | (with_reducible refine row_setO (by first | assumption | exact Ne.symm (by assumption) | (simp; omega)) ?_) | (with_reducible refine row_updO (by assumption) ?_))); try exact rfl) (by simp) (by simp) (by intro x hx; simp at hx; unfold i64ok; omega) (by decide)) (by intro b hb; simp [Value.blk] at hb; omega) (by decide) (by decide) (by intro x hx; simp at hx; omega)).mono ?_); rintro e w' ⟨x1, i1, h1, g1, x1l, x1h, i1l, i1h, rfl, rfl⟩
  go_wp2_with fail
  (with_reducible refine (l01PickInt_any B v code _ ([0, 50, 100, 400] : List Int) (0) (400) w0 _ (by repeat (first | (with_reducible exact hcu) | (with_reducible refine Cu.plus ?_ _) | (with_reducible refine Cu.alloc ?_ _) | (with_reducible refine Cu.drew ?_) | (with_reducible refine Cu.upd ?_ (by assumption) (by assumption)) | (with_reducible refine Cu.updO ?_ (by first | assumption | omega | (simp; omega)) (by first | assumption | exact Ne.symm (by assumption) | (simp; omega))) | (with_reducible refine Cu.setCell ?_ (by first | assumption | omega | (simp; omega)) (by first | assumption | exact Ne.symm (by assumption) | (simp; omega)) _))) (holds_litN [0, 50, 100, 400] (by (repeat (first | (with_reducible refine row_plus ?_) | (with_reducible refine row_drew ?_) | (with_reducible exact row_allocN (by first | assumption | (simp; done) | (simp; omega))) | (with_reducible refine row_allocO ?_) | (with_reducible refine row_updN (by first | assumption | exact Ne.symm (by assumption) | (simp; omega)) ?_) | (with_reducible refine row_setO (by first | assumption | exact Ne.symm (by assumption) | (simp; omega)) ?_) | (with_reducible refine row_updO (by assumption) ?_))); try exact rfl) (by simp) (by simp) (by intro x hx; simp at hx; unfold i64ok; omega) (by decide)) (by intro b hb; simp [Value.blk] at hb; omega) (by decide) (by decide) (by intro x hx; simp at hx; omega)).mono ?_); rintro e w' ⟨x2, i2, h2, g2, x2l, x2h, i2l, i2h, rfl, rfl⟩
  go_wp2_with fail
  (with_reducible refine (l01Below_any B v code _ w0 _ (by repeat (first | (with_reducible exact hcu) | (with_reducible refine Cu.plus ?_ _) | (with_reducible refine Cu.alloc ?_ _) | (with_reducible refine Cu.drew ?_) | (with_reducible refine Cu.upd ?_ (by assumption) (by assumption)) | (with_reducible refine Cu.updO ?_ (by first | assumption | omega | (simp; omega)) (by first | assumption | exact Ne.symm (by assumption) | (simp; omega))) | (with_reducible refine Cu.setCell ?_ (by first | assumption | omega | (simp; omega)) (by first | assumption | exact Ne.symm (by assumption) | (simp; omega)) _))) (by omega) (by omega)).mono ?_); rintro e w' ⟨x3, i3, h3, g3, x3l, x3h, i3l, i3h, rfl, rfl⟩
  go_wp2
  refine bodyPost_ret (v := _) (by simp [results, Try.results71, go_sem] <;> rfl) rfl ?_
  exact ⟨x1, x2, x3, x1l, x1h, x2l, x2h, x3l, by omega, rfl, Mv.drw (by repeat (first | (with_reducible exact hmv) | (with_reducible refine Mv.plus ?_ _) | (with_reducible refine Mv.alloc ?_ _) | (with_reducible refine Mv.drew ?_) | (with_reducible refine Mv.upd ?_ (by assumption) (by assumption)) | (with_reducible refine Mv.updO ?_ (by first | assumption | omega | (simp; omega)) (by first | assumption | exact Ne.symm (by assumption) | (simp; omega))) | (with_reducible refine Mv.updL ?_ HNB.out) | (with_reducible refine Mv.setCell ?_ (by first | assumption | omega | (simp; done) | (simp; omega)) (by first | assumption | exact Ne.symm (by assumption) | (simp; omega)) _))) lB⟩

set_option maxRecDepth 100000 in
set_option maxHeartbeats 4000000 in
theorem l29Lengths_any (B : Nat) (v : Value) (code : List UInt8) (w0 w : World) (hcu : Cu 129 w0 B v code w) :
    Calls Try.prog 72 #[.pointer (some ⟨B, 0, none⟩)] w (fun e w' => DrawnInts 129 B v code.length w 7 0 59 e w') := by
  have hmv := hcu.mv
  have lB := hcu.lt
  go_enter Try.func72, Try.ntmps72
  go_wp2_with fail
  (with_reducible refine (l01Below_any B v code _ w0 _ (by repeat (first | (with_reducible exact hcu) | (with_reducible refine Cu.plus ?_ _) | (with_reducible refine Cu.alloc ?_ _) | (with_reducible refine Cu.drew ?_) | (with_reducible refine Cu.upd ?_ (by assumption) (by assumption)) | (with_reducible refine Cu.updO ?_ (by first | assumption | omega | (simp; omega)) (by first | assumption | exact Ne.symm (by assumption) | (simp; omega))) | (with_reducible refine Cu.setCell ?_ (by first | assumption | omega | (simp; omega)) (by first | assumption | exact Ne.symm (by assumption) | (simp; omega)) _))) (by omega) (by omega)).mono ?_); rintro e w' ⟨x1, i1, h1, g1, x1l, x1h, i1l, i1h, rfl, rfl⟩
  go_wp2
  go_loopw [3, 4] (fun vo q wr => ∃ (k : Int) (xs : List Int), q = .int .i64 k ∧ 0 ≤ k ∧ k + xs.length ≤ 7 ∧ (∀ x ∈ xs, 0 ≤ x ∧ x ≤ 59) ∧ Slot w.heap.size wr 3 1 vo xs.length (xs.map (Value.int .i64)) ∧ Mv 129 B v code.length w wr) (fun _ q _ => (intOf q).toNat)
  case atStart => exact ⟨x1, [], rfl, x1l, by simp; omega, (by intro x hx; cases hx), (by repeat (first | (with_reducible refine Slot.plus ?_ _) | (with_reducible refine Slot.updN ?_ (by intro b hb; simp [Value.blk] at hb; simp; omega)) | exact Slot.madeN (by first | (simp; done) | omega | (simp; omega)) (Nat.le_refl _))), (by repeat (first | (with_reducible exact hmv) | (with_reducible refine Mv.plus ?_ _) | (with_reducible refine Mv.alloc ?_ _) | (with_reducible refine Mv.drew ?_) | (with_reducible refine Mv.upd ?_ (by assumption) (by assumption)) | (with_reducible refine Mv.updO ?_ (by first | assumption | omega | (simp; omega)) (by first | assumption | exact Ne.symm (by assumption) | (simp; omega))) | (with_reducible refine Mv.updL ?_ HNB.out) | (with_reducible refine Mv.setCell ?_ (by first | assumption | omega | (simp; done) | (simp; omega)) (by first | assumption | exact Ne.symm (by assumption) | (simp; omega)) _)))⟩
  case round =>
    obtain ⟨k, xs, rfl, k0, k1, hb, hs, hmr⟩ := hrel
    have hcu2 := hcu.moved hmr
    have lB2 := hcu2.lt
    have sz2 := hmr.size
    obtain ⟨a1, c1, rfl, hc1⟩ := hs.form
    have hnb : B ∉ (Value.slice a1 xs.length c1).blk := fun h => by have := (hs.blk_lt _ h).1; omega
    have HNB := hid (show ∀ x ∈ (Value.slice a1 xs.length c1).blk, w.heap.size ≤ x ∧ x ≠ B from fun x hx => by have := (hs.blk_lt _ hx).1; omega)
    have HB := hid hb
    have HS := hid hs
    clear hb hs
    by_cases hk : 0 < k
    · go_wp2_with fail
      (with_reducible refine (l01Below_any B v code _ w0 _ (by repeat (first | (with_reducible exact hcu2) | (with_reducible refine Cu.plus ?_ _) | (with_reducible refine Cu.alloc ?_ _) | (with_reducible refine Cu.drew ?_) | (with_reducible refine Cu.upd ?_ (by assumption) (by assumption)) | (with_reducible refine Cu.updO ?_ (by first | assumption | omega | (simp; omega)) (by first | assumption | exact Ne.symm (by assumption) | (simp; omega))) | (with_reducible refine Cu.setCell ?_ (by first | assumption | omega | (simp; omega)) (by first | assumption | exact Ne.symm (by assumption) | (simp; omega)) _))) (by omega) (by omega)).mono ?_); rintro e w' ⟨x2, i2, h2, g2, x2l, x2h, i2l, i2h, rfl, rfl⟩
      go_wp2_with (first
            | (at_builtin; refine wpList_app rfl _ _ 33 33 rfl 3 (.int .i64 0) 1 8 Try.underlying33 info_int rfl w.heap.size (.slice a1 xs.length c1) xs.length (xs.map (Value.int .i64)) rfl (by repeat (first | (with_reducible exact HS.out) | (with_reducible refine Slot.plus ?_ _) | (with_reducible refine Slot.alloc ?_ _) | (with_reducible refine Slot.updN ?_ (fun b hb => by have := HNB.out b hb; simp; omega)))) _ 1 [.int .i64 x2] rfl (Src.lone Try.underlying33 #[.int .i64 x2] (by intro u hu; simp at hu; subst hu; rfl) _ (by (repeat (first | (with_reducible refine row_plus ?_) | (with_reducible refine row_drew ?_) | (with_reducible exact row_allocN (by first | assumption | (simp; done) | (simp; omega))) | (with_reducible refine row_allocO ?_) | (with_reducible refine row_updN (by first | assumption | exact Ne.symm (by assumption) | (simp; omega)) ?_) | (with_reducible refine row_setO (by first | assumption | exact Ne.symm (by assumption) | (simp; omega)) ?_) | (with_reducible refine row_updO (by assumption) ?_))); try exact rfl)) (by unfold maxLen; omega) (by omega) (by first | (simp; done) | omega | (simp; omega)) ?_; intro v' f g9 hs2 hb2))
      obtain ⟨a2, c2, rfl, hc2⟩ := hs2.form
      go_wp2
      go_roundw
      case rel => exact ⟨k - 1, xs ++ [x2], rfl, by omega, by simp; omega, fun x hx => by rcases List.mem_append.1 hx with hx | hx; exact HB.out x hx; simp at hx; subst hx; omega, by rw [List.length_append, List.map_append]; exact hs2, (by repeat (first | (with_reducible exact hmr) | (with_reducible refine Mv.plus ?_ _) | (with_reducible refine Mv.alloc ?_ _) | (with_reducible refine Mv.drew ?_) | (with_reducible refine Mv.upd ?_ (by assumption) (by assumption)) | (with_reducible refine Mv.updO ?_ (by first | assumption | omega | (simp; omega)) (by first | assumption | exact Ne.symm (by assumption) | (simp; omega))) | (with_reducible refine Mv.updL ?_ HNB.out) | (with_reducible refine Mv.setCell ?_ (by first | assumption | omega | (simp; done) | (simp; omega)) (by first | assumption | exact Ne.symm (by assumption) | (simp; omega)) _)))⟩
      case measure => simp [intOf]; omega
    · go_wp2
      go_ret
      have ho := (HS.out.ints (fun x hx => by have := HB.out x hx; unfold i64ok; omega)).2
      exact ⟨xs, _, _, by omega, HB.out, rfl, ho, hmr.drw lB⟩

def RetPacing (w : World) (e : Ending) (w' : World) : Prop := ∃ (r b t : Int) (xs : List Int) (a : Option Addr) (c : Nat), bucketOkB r b t = true ∧ r ≤ 100 ∧ b ≤ 400 ∧ xs.length ≤ 7 ∧ (∀ x ∈ xs, 0 ≤ x ∧ x ≤ 59) ∧
  e = .returned (.tuple #[.agg #[.int .i64 r, .int .i64 b, .int .i64 t], .slice a xs.length c]) ∧ Owns w.heap.size w' xs [.slice a xs.length c] ∧ Ex w w'
set_option maxRecDepth 100000 in
set_option maxHeartbeats 4000000 in
theorem drawPacing_any (v : Value) (code : List UInt8) (w : World) (k1 : Holds w code [v]) :
    Calls Try.prog 20 #[v] w (RetPacing w) := by
  obtain ⟨a, cap, hv, h1, h2, h3⟩ := k1.bytes
  simp only [List.cons.injEq, and_true] at hv
  subst hv
  clear h3
  go_enter Try.func20, Try.ntmps20
  go_wp2_with fail
  (with_reducible refine (l01New_any _ code _ (k1.ex (by repeat (first | (with_reducible exact Ex.refl _) | (with_reducible apply Ex.plus_add) | (with_reducible apply Ex.plus_drew) | (with_reducible apply Ex.plus) | (with_reducible apply Ex.alloc) | (with_reducible apply Ex.drew))))).mono ?_); rintro e w1 ⟨B, h, rfl, hB, hx, hr⟩
  have lB := row_lt hr
  have hxw : Ex w w1 := Ex.trans (by repeat (first | (with_reducible exact Ex.refl _) | (with_reducible apply Ex.plus_add) | (with_reducible apply Ex.plus_drew) | (with_reducible apply Ex.plus) | (with_reducible apply Ex.alloc) | (with_reducible apply Ex.drew))) hx
  have hlB : w.heap.size ≤ B := by simp at hB; omega
  have nB : w.heap.size ≠ B := by simp at hB; omega
  have hcu := Cu.new (T := 129) k1 hxw hlB hr
  have hW : w1.heap[w.heap.size]? = some (.cells #[.int .i64 0, .int .i64 0, .int .i64 0] 32 (0, 0)) := hx.row (row_alloc _ _)
  have d0 : w1.cell? ⟨w.heap.size, 0, none⟩ = some (.int .i64 0) := by rw [cell_row hW]; rfl
  have d1 : w1.cell? ⟨w.heap.size, 1, none⟩ = some (.int .i64 0) := by rw [cell_row hW]; rfl
  have d2 : w1.cell? ⟨w.heap.size, 2, none⟩ = some (.int .i64 0) := by rw [cell_row hW]; rfl
  have f0 := frozen_row hW 0
  have f1 := frozen_row hW 1
  have f2 := frozen_row hW 2
  have lW := row_lt hW
  have HW := hid hW
  clear hr hx hW
  go_wp2_with fail
  (with_reducible refine (l29Bucket_any B _ code w w1 hcu).mono ?_); rintro e w' ⟨r, b, t, r0, r1, b0, b1, t0, t1, rfl, i, h, g, i0, i1, rfl⟩
  have nV : w1.heap.size + g.o.size ≠ B := by omega
  go_wp2_with fail
  refine wp_region_plan (fun w' => ∃ p : Upg, w' = (World.upd _ [B] p.f).plus p.g) (.early 0 (.forced 1 1 (.forced 2 1 (.forced 3 2 (.forced 4 2 .done))))) (OneB.formP (OneB.drew (OneB.refl _ _))) (by kernel_rfl) (by kernel_rfl) ?_
  first | refine wpPlan_skipE rfl rfl ?_ | (refine wpPlan_early rfl rfl ?_; intro K hK; go_big_quiet_op; go_big_quiet_on)
  refine wpPlan_forced ?_
  first | refine wpOne_skip rfl rfl ?_ | (refine wpOne_1 rfl rfl ?_; intro K hK; go_simp; (try (first | (go_at_call 72; (with_reducible refine (l29Lengths_any B (.slice a code.length cap) code w _ (by repeat (first | (with_reducible exact hcu) | (with_reducible refine Cu.plus ?_ _) | (with_reducible refine Cu.alloc ?_ _) | (with_reducible refine Cu.drew ?_) | (with_reducible refine Cu.upd ?_ (by assumption) (by assumption)) | (with_reducible refine Cu.updO ?_ (by first | assumption | omega | (simp; omega)) (by first | assumption | exact Ne.symm (by assumption) | (simp; omega))) | (with_reducible refine Cu.setCell ?_ (by first | assumption | omega | (simp; omega)) (by first | assumption | exact Ne.symm (by assumption) | (simp; omega)) _)))).mono ?_); rintro e w' ⟨xs, a2, c2, xl, xb, rfl, ho, i2, h2, g2, i20, i21, rfl⟩))); refine hK _ _ ?_ ?_; (focus (exact OneB.formP (by repeat (first | (with_reducible exact OneB.refl _ _) | (with_reducible refine OneB.drew ?_) | (with_reducible refine OneB.plus ?_ _) | (with_reducible refine OneB.upd ?_ _) | (with_reducible refine OneB.allocN ?_ _))))); clear hK K)
  refine wpPlan_forced ?_
  first | refine wpOne_skip rfl rfl ?_ | (refine wpOne_1 rfl rfl ?_; intro K hK; go_simp; (try (first | (go_at_call 72; (with_reducible refine (l29Lengths_any B (.slice a code.length cap) code w _ (by repeat (first | (with_reducible exact hcu) | (with_reducible refine Cu.plus ?_ _) | (with_reducible refine Cu.alloc ?_ _) | (with_reducible refine Cu.drew ?_) | (with_reducible refine Cu.upd ?_ (by assumption) (by assumption)) | (with_reducible refine Cu.updO ?_ (by first | assumption | omega | (simp; omega)) (by first | assumption | exact Ne.symm (by assumption) | (simp; omega))) | (with_reducible refine Cu.setCell ?_ (by first | assumption | omega | (simp; omega)) (by first | assumption | exact Ne.symm (by assumption) | (simp; omega)) _)))).mono ?_); rintro e w' ⟨xs, a2, c2, xl, xb, rfl, ho, i2, h2, g2, i20, i21, rfl⟩))); refine hK _ _ ?_ ?_; (focus (exact OneB.formP (by repeat (first | (with_reducible exact OneB.refl _ _) | (with_reducible refine OneB.drew ?_) | (with_reducible refine OneB.plus ?_ _) | (with_reducible refine OneB.upd ?_ _) | (with_reducible refine OneB.allocN ?_ _))))); clear hK K)
  refine wpPlan_forced ?_
  first | refine wpOne_skip rfl rfl ?_ | (refine wpOne_2 rfl rfl ?_; intro K hK; go_simp; (try (first | (go_at_call 72; (with_reducible refine (l29Lengths_any B (.slice a code.length cap) code w _ (by repeat (first | (with_reducible exact hcu) | (with_reducible refine Cu.plus ?_ _) | (with_reducible refine Cu.alloc ?_ _) | (with_reducible refine Cu.drew ?_) | (with_reducible refine Cu.upd ?_ (by assumption) (by assumption)) | (with_reducible refine Cu.updO ?_ (by first | assumption | omega | (simp; omega)) (by first | assumption | exact Ne.symm (by assumption) | (simp; omega))) | (with_reducible refine Cu.setCell ?_ (by first | assumption | omega | (simp; omega)) (by first | assumption | exact Ne.symm (by assumption) | (simp; omega)) _)))).mono ?_); rintro e w' ⟨xs, a2, c2, xl, xb, rfl, ho, i2, h2, g2, i20, i21, rfl⟩))); refine hK _ _ ?_; clear hK K)
  refine wpPlan_forced ?_
  first | refine wpOne_skip rfl rfl ?_ | (refine wpOne_2 rfl rfl ?_; intro K hK; go_simp; (try (first | (go_at_call 72; (with_reducible refine (l29Lengths_any B (.slice a code.length cap) code w _ (by repeat (first | (with_reducible exact hcu) | (with_reducible refine Cu.plus ?_ _) | (with_reducible refine Cu.alloc ?_ _) | (with_reducible refine Cu.drew ?_) | (with_reducible refine Cu.upd ?_ (by assumption) (by assumption)) | (with_reducible refine Cu.updO ?_ (by first | assumption | omega | (simp; omega)) (by first | assumption | exact Ne.symm (by assumption) | (simp; omega))) | (with_reducible refine Cu.setCell ?_ (by first | assumption | omega | (simp; omega)) (by first | assumption | exact Ne.symm (by assumption) | (simp; omega)) _)))).mono ?_); rintro e w' ⟨xs, a2, c2, xl, xb, rfl, ho, i2, h2, g2, i20, i21, rfl⟩))); refine hK _ _ ?_; clear hK K)
  refine wpPlan_done ?_
  have hbk : bucketOkB r b t = true := by simp only [bucketOkB, Bool.and_eq_true, inB_iff]; omega
  have HBK := hid hbk
  have XB := hid xb
  clear hbk xb
  go_wp2
  refine bodyPost_ret (v := _) (by simp [results, Try.results20, go_sem, d0, d1, d2, lW, nB] <;> rfl) rfl ?_
  refine ⟨r, b, t, xs, a2, c2, HBK.out, r1, b1, xl, XB.out, rfl, (ho.agr (by repeat (first | (refine Agr.of_le ?_; (first | (simp; done) | omega | (simp; omega))) | (refine Agr.plus' ?_ ?_ _; focus simp) | (refine Agr.upd' ?_ ?_ _ _; focus simp) | (refine Agr.alloc' ?_ ?_ _; focus simp) | (with_reducible apply Agr.drewL) | (with_reducible apply Agr.drewR)))).lower ?_, (by repeat (first | (with_reducible exact hxw) | (with_reducible refine Ex.plus ?_ _) | (with_reducible refine Ex.drew ?_) | (with_reducible refine Ex.alloc ?_ _) | (with_reducible refine Ex.upd1 ?_ (by first | assumption | omega | (simp; done) | (simp; omega))) | (with_reducible refine Ex.setCell ?_ (by first | assumption | omega | (simp; done) | (simp; omega)) _) | (with_reducible refine Ex.upd ?_ HBL.out)))⟩
  all_goals (first | (simp; done) | omega | (simp; omega))

end Go.Proofs.Ytlpipllhbobfbaa
