/- Regions that draw their order, in which a callee may turn one block. No program in sight. -/
import Derived.Test.YtlpipllhbobfbaaCur
namespace Go
open Go.RowKit
variable {P : Program} {Q : Exit → Act → World → Prop}
theorem OneB.formE {B : Nat} {w w' : World} (h : OneB B w w') : ∃ f g, w' = (w.upd [B] f).plus g := by
  obtain ⟨h1, h2, h3, h4, h5⟩ := h
  exact World.as_upd (w := w) (w' := w') [B] h1 h2 h3 h4 (fun k hk hn => h5 k hk (by simpa using hn))
theorem OneB.allocN {B : Nat} {w a : World} (h : OneB B w a) (o : Obj) : OneB B w (a.alloc o) := h.ex ((Ex.refl _).alloc o)
theorem OneB.updL {B : Nat} {w a : World} (h : OneB B w a) {bs : List Nat} {f : Nat → Obj} (hp : ∀ b ∈ bs, w.heap.size ≤ b ∧ b ≠ B) : OneB B w (a.upd bs f) := by
  obtain ⟨h1, h2, h3, h4, h5⟩ := h
  exact ⟨h1, h2, h3, by simpa using h4, fun k hk hn => (World.block_upd a bs f (fun hm => by have := (hp k hm).1; omega)).trans (h5 k hk hn)⟩
theorem Mv.updL {T : TypeId} {B : Nat} {v : Value} {n : Nat} {w wr : World} (h : Mv T B v n w wr) {bs : List Nat} {f : Nat → Obj} (hp : ∀ b ∈ bs, w.heap.size ≤ b ∧ b ≠ B) : Mv T B v n w (wr.upd bs f) :=
  ⟨h.1.updL hp, h.2.upd_other (fun hm => (hp B hm).2 rfl)⟩
structure Upg where
  f : Nat → Obj
  g : Gr
instance : Inhabited Upg := ⟨⟨fun _ => default, default⟩⟩
theorem OneB.formP {B : Nat} {w w' : World} (h : OneB B w w') : ∃ p : Upg, w' = (w.upd [B] p.f).plus p.g := by
  obtain ⟨f, g, e⟩ := h.formE
  exact ⟨⟨f, g⟩, e⟩
/-- As wp_region_mix; what is forced may turn the block B. -/
theorem wp_region_mixB {id : Nat} {a : Act} {w : World} {l : List Oper} (B : Nat) (idx : List (Nat × Nat)) (hm : P.follows .mixedOrders = true) (hB : mixB l.toArray idx = true)
    (h : wpMix P l.toArray (fun w' => ∃ f g, w' = (w.upd [B] f).plus g) (NoPanic Q) idx a w.drew) : (Code.region id l.toArray true).wp P Q a w := by
  simp only [mixB, Bool.and_eq_true, beq_iff_eq] at hB
  obtain ⟨⟨h1, h2⟩, h3⟩ := hB
  refine wp_region_noPanic (wp_region_any hm ?_)
  have h4 := wpMix_sound h1 (fun _ _ _ h => h) idx true _ a _ (fun _ => (OneB.drew (OneB.refl B w)).formE) h3 h
  rw [h2] at h4
  exact wpAny_of_E _ _ _ _ h4
end Go
