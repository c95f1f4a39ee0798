/- A fresh row that a loop fills with owned values of one cell. No program in sight. -/
import Derived.Test.YtigepcpmdhcenaaSl
namespace Go
open Go.RowKit

theorem flatMap_same {α β : Type} {f g : α → List β} : ∀ l : List α, (∀ x ∈ l, f x = g x) → l.flatMap f = l.flatMap g
  | [], _ => rfl
  | x :: l, h => by rw [List.flatMap_cons, List.flatMap_cons, h x (List.mem_cons_self ..), flatMap_same l fun y hy => h y (List.mem_cons_of_mem _ hy)]

def Filled {α : Type} [Rep α] (B : Nat) (wr : World) (xs : List α) (k : Nat) (C : Array Value) : Prop :=
  ∃ (ts : Nat → Value) (ds : Nat → List Nat), (∀ j (hj : j < xs.length), j < k → Rep.tree wr (xs[j]'hj) [ts j] (ds j) ∧ C[j]? = some (ts j)) ∧
    (∀ j, j < k → ∀ b ∈ ds j, B < b ∧ b < wr.heap.size ∧ ∀ o, wr.frozen? ⟨b, o, none⟩ = false) ∧ ((List.range k).flatMap ds).Nodup
theorem Filled.zero {α : Type} [Rep α] (B : Nat) (wr : World) (xs : List α) (C : Array Value) : Filled B wr xs 0 C :=
  ⟨fun _ => default, fun _ => [], fun _ _ h => absurd h (Nat.not_lt_zero _), fun _ h => absurd h (Nat.not_lt_zero _), by simp⟩
theorem Filled.step {α : Type} [Rep α] {B : Nat} {wr wr' : World} {xs : List α} {k : Nat} {C : Array Value} {v : Value} (h : Filled B wr xs k C) (hk : k < xs.length) (hB : B < wr.heap.size) (hx : Ex wr wr')
    (ho : Owns wr.heap.size wr' (xs[k]'hk) [v]) (hs : k < C.size) : Filled B (wr'.setCell ⟨B, k, none⟩ v) xs (k + 1) (C.setIfInBounds k v) := by
  obtain ⟨ts, ds, h1, h2, h3⟩ := h
  obtain ⟨bs, t, nd, f⟩ := ho
  have hsz : wr.heap.size ≤ wr'.heap.size := hx.size
  have hrow : ∀ b, b ≠ B → (wr'.setCell ⟨B, k, none⟩ v).heap[b]? = wr'.heap[b]? := fun b hb => row_setCell_other (p := ⟨B, k, none⟩) hb v
  have hfz : ∀ b, b ≠ B → ∀ o, (wr'.setCell ⟨B, k, none⟩ v).frozen? ⟨b, o, none⟩ = wr'.frozen? ⟨b, o, none⟩ := fun b hb o => by simp only [World.frozen?, hrow b hb]
  have hss : (wr'.setCell ⟨B, k, none⟩ v).heap.size = wr'.heap.size := by simp
  refine ⟨fun j => if j = k then v else ts j, fun j => if j = k then bs else ds j, fun j hj hjk => ?_, fun j hjk b hb => ?_, ?_⟩
  · by_cases e : j = k
    · subst e
      simp only [if_true]
      refine ⟨Rep.stable t fun b hb => hrow b (by have := (f b hb).1; omega), ?_⟩
      rw [Array.getElem?_setIfInBounds]; simp [hs]
    · simp only [if_neg e]
      have := h1 j hj (by omega)
      refine ⟨Rep.stable this.1 fun b hb => ?_, ?_⟩
      · have hb' := h2 j (by omega) b hb
        rw [hrow b (by omega)]; exact hx.block hb'.2.1
      · rw [Array.getElem?_setIfInBounds, if_neg (fun e' => e e'.symm)]; exact this.2
  · by_cases e : j = k
    · simp only [e, if_true] at hb
      have hb' := f b hb
      exact ⟨by omega, by rw [hss]; exact Rep.lt t b hb, fun o => by rw [hfz b (by omega)]; exact hb'.2 o⟩
    · simp only [if_neg e] at hb
      have hb' := h2 j (by omega) b hb
      exact ⟨hb'.1, by rw [hss]; omega, fun o => by rw [hfz b (by omega), hx.frozen (p := ⟨b, o, none⟩) hb'.2.1]; exact hb'.2.2 o⟩
  · have e1 : (List.range k).flatMap (fun j => if j = k then bs else ds j) = (List.range k).flatMap ds := by
      refine flatMap_same _ fun j hj => ?_
      rw [if_neg (by have := List.mem_range.1 hj; omega)]
    rw [List.range_succ, List.flatMap_append, e1, List.nodup_append]
    refine ⟨h3, by simpa using nd, fun a ha b hb e => ?_⟩
    subst e
    obtain ⟨j, hj, ha⟩ := List.mem_flatMap.1 ha
    have h4 := h2 j (List.mem_range.1 hj) a ha
    simp at hb
    have := (f a hb).1
    omega
theorem Filled.owns {α : Type} [Rep α] {lo B : Nat} {wr : World} {xs : List α} {C : Array Value} {E : TypeId} (h : Filled B wr xs xs.length C) (h1 : Rep.size α = 1) (hr : wr.heap[B]? = some (.cells C E (0, 0))) (hs : C.size = xs.length)
    (hl : lo ≤ B) (hm : xs.length ≤ maxLen) : Owns lo wr xs [.slice (some ⟨B, 0, none⟩) xs.length xs.length] := by
  obtain ⟨ts, ds, h2, h3, h4⟩ := h
  by_cases h0 : xs.length = 0
  · exact ⟨[], ⟨_, _, rfl, Nat.le_refl _, hm, .inl ⟨h0, rfl⟩⟩, List.nodup_nil, fun b hb => by cases hb⟩
  · refine ⟨B :: (List.range xs.length).flatMap ds, ⟨_, _, rfl, Nat.le_refl _, hm, .inr ⟨B, 0, C, E, (0, 0), fun i => [ts i], ds, rfl, by omega, hr, by rw [h1]; omega, rfl, fun i hi => ⟨(h2 i hi hi).1, fun j hj => ?_⟩⟩⟩, ?_, fun b hb => ?_⟩
    · rw [h1] at hj ⊢
      obtain rfl : j = 0 := by omega
      simpa using (h2 i hi hi).2
    · rw [List.nodup_cons]
      refine ⟨fun hb => ?_, h4⟩
      obtain ⟨j, hj, hb⟩ := List.mem_flatMap.1 hb
      have := (h3 j (List.mem_range.1 hj) B hb).1
      omega
    · rcases List.mem_cons.1 hb with rfl | hb
      · exact ⟨hl, fun o => frozen_row hr o⟩
      · obtain ⟨j, hj, hb⟩ := List.mem_flatMap.1 hb
        have := h3 j (List.mem_range.1 hj) b hb
        exact ⟨by omega, this.2.2⟩
end Go
