/- Rows of memory and slices over them: plain lemmas, no program in sight. -/
import Derived.Test.YtelkplponnfkpaaRep
import Derived.IntWalk
import Derived.Deep.OwnRows
namespace Go
open Go.RowKit

theorem cell_row {w : World} {B : Nat} {C : Array Value} {E : TypeId} {fr : Nat × Nat} (h : w.heap[B]? = some (.cells C E fr)) (i : Nat) : w.cell? ⟨B, i, none⟩ = C[i]? := by simp [World.cell?, h]
theorem frozen_row {w : World} {B : Nat} {C : Array Value} {E : TypeId} (h : w.heap[B]? = some (.cells C E (0, 0))) (i : Nat) : w.frozen? ⟨B, i, none⟩ = false := by simp [World.frozen?, h]
theorem row_setCell {w : World} {B : Nat} {C : Array Value} {E : TypeId} {fr : Nat × Nat} (h : w.heap[B]? = some (.cells C E fr)) (i : Nat) (v : Value) : (w.setCell ⟨B, i, none⟩ v).heap[B]? = some (.cells (C.setIfInBounds i v) E fr) := by
  simp [World.setCell, Array.getElem?_modify, h]
theorem row_setCell_other {w : World} {B : Nat} {p : Addr} (hp : B ≠ p.block) (v : Value) : (w.setCell p v).heap[B]? = w.heap[B]? := by
  simp only [World.setCell, Array.getElem?_modify]
  rw [if_neg (fun h => hp h.symm)]
theorem row_lt {w : World} {B : Nat} {o : Obj} (h : w.heap[B]? = some o) : B < w.heap.size := by
  rcases Nat.lt_or_ge B w.heap.size with h' | h'
  · exact h'
  · rw [Array.getElem?_eq_none h'] at h; cases h
theorem row_alloc (w : World) (o : Obj) : (w.alloc o).heap[w.heap.size]? = some o := by show (w.heap.push o)[w.heap.size]? = _; simp
theorem Ex.setCell {a b : World} (h : Ex a b) {p : Addr} (hp : a.heap.size ≤ p.block) (v : Value) : Ex a (b.setCell p v) := Ex.of_below (h.below.setCell hp v)
theorem Ex.row {a b : World} (h : Ex a b) {B : Nat} {o : Obj} (hB : a.heap[B]? = some o) : b.heap[B]? = some o := by rw [h.block (row_lt hB)]; exact hB

/-- What is held by a slice value. -/
theorem Holds.slice {α : Type} [Rep α] {w : World} {xs : List α} {vs : List Value} (h : Holds w xs vs) : ∃ a cap, vs = [.slice a xs.length cap] ∧ xs.length ≤ cap ∧ cap ≤ maxLen ∧
    ∀ i (hi : i < xs.length), ∃ b off ts, a = some ⟨b, off, none⟩ ∧ Holds w (xs[i]'hi) ts ∧ ∀ j, j < Rep.size α → w.cell? ⟨b, off + i * Rep.size α + j, none⟩ = ts[j]? := by
  obtain ⟨bs, a, cap, rfl, h1, h2, h3⟩ := h
  refine ⟨a, cap, rfl, h1, h2, fun i hi => ?_⟩
  rcases h3 with ⟨h3, _⟩ | ⟨b, off, cur, E, fr, ts, ds, rfl, _, hb, _, _, he⟩
  · omega
  · exact ⟨b, off, ts i, rfl, ⟨_, (he i hi).1⟩, fun j hj => by rw [cell_row hb]; exact (he i hi).2 j hj⟩
theorem Holds.int {w : World} {n : Int} {vs : List Value} (h : Holds w n vs) : vs = [.int .i64 n] ∧ i64ok n := let ⟨_, h1, _, h2⟩ := h; ⟨h1, h2⟩
theorem Holds.bool {w : World} {n : Bool} {vs : List Value} (h : Holds w n vs) : vs = [.bool n] := let ⟨_, h1, _⟩ := h; h1
theorem Holds.str {w : World} {n : ByteArray} {vs : List Value} (h : Holds w n vs) : vs = [.string n] ∧ n.size ≤ maxLen := let ⟨_, h1, _, h2⟩ := h; ⟨h1, h2⟩
theorem Holds.byte {w : World} {n : UInt8} {vs : List Value} (h : Holds w n vs) : vs = [.int .u8 n.toNat] := let ⟨_, h1, _⟩ := h; h1
theorem Holds.prod {α β : Type} [Rep α] [Rep β] {w : World} {x : α × β} {vs : List Value} (h : Holds w x vs) : ∃ v1 v2, vs = v1 ++ v2 ∧ Holds w x.1 v1 ∧ Holds w x.2 v2 := by
  obtain ⟨bs, v1, v2, b1, b2, rfl, rfl, h1, h2⟩ := h
  exact ⟨v1, v2, rfl, ⟨_, h1⟩, ⟨_, h2⟩⟩
theorem Holds.len {α : Type} [Rep α] {w : World} {x : α} {vs : List Value} (h : Holds w x vs) : vs.length = Rep.size α := let ⟨_, h⟩ := h; Rep.len h
theorem holds_int (w : World) {n : Int} (h : i64ok n) : Holds w n [.int .i64 n] := ⟨[], rfl, rfl, h⟩
theorem holds_bool (w : World) (n : Bool) : Holds w n [.bool n] := ⟨[], rfl, rfl⟩
theorem holds_str (w : World) {n : ByteArray} (h : n.size ≤ maxLen) : Holds w n [.string n] := ⟨[], rfl, rfl, h⟩
theorem holds_prod {α β : Type} [Rep α] [Rep β] {w : World} {x : α} {y : β} {v1 v2 : List Value} (h1 : Holds w x v1) (h2 : Holds w y v2) : Holds w (x, y) (v1 ++ v2) := by
  obtain ⟨b1, h1⟩ := h1
  obtain ⟨b2, h2⟩ := h2
  exact ⟨_, _, _, _, _, rfl, rfl, h1, h2⟩

/-- A slice of whole numbers, opened. -/
theorem Holds.ints {w : World} {xs : List Int} {vs : List Value} (h : Holds w xs vs) : ∃ a cap, vs = [.slice a xs.length cap] ∧ xs.length ≤ cap ∧ cap ≤ maxLen ∧
    (∀ i (hi : i < xs.length), ∃ b off, a = some ⟨b, off, none⟩ ∧ w.cell? ⟨b, off + i, none⟩ = some (.int .i64 (xs[i]'hi))) ∧ ∀ x ∈ xs, i64ok x := by
  obtain ⟨a, cap, rfl, h1, h2, h3⟩ := h.slice
  refine ⟨a, cap, rfl, h1, h2, fun i hi => ?_, fun x hx => ?_⟩
  · obtain ⟨b, off, ts, ha, ht, hc⟩ := h3 i hi
    obtain ⟨rfl, _⟩ := ht.int
    have := hc 0 (by decide)
    exact ⟨b, off, ha, by simpa [Rep.size] using this⟩
  · obtain ⟨i, hi, rfl⟩ := List.getElem_of_mem hx
    obtain ⟨b, off, ts, ha, ht, hc⟩ := h3 i hi
    exact ht.int.2
/-- .. of strings. -/
theorem Holds.strs {w : World} {xs : List ByteArray} {vs : List Value} (h : Holds w xs vs) : ∃ a cap, vs = [.slice a xs.length cap] ∧ xs.length ≤ cap ∧ cap ≤ maxLen ∧
    (∀ i (hi : i < xs.length), ∃ b off, a = some ⟨b, off, none⟩ ∧ w.cell? ⟨b, off + i, none⟩ = some (.string (xs[i]'hi))) ∧ ∀ x ∈ xs, x.size ≤ maxLen := by
  obtain ⟨a, cap, rfl, h1, h2, h3⟩ := h.slice
  refine ⟨a, cap, rfl, h1, h2, fun i hi => ?_, fun x hx => ?_⟩
  · obtain ⟨b, off, ts, ha, ht, hc⟩ := h3 i hi
    obtain ⟨rfl, _⟩ := ht.str
    have := hc 0 (by decide)
    exact ⟨b, off, ha, by simpa [Rep.size] using this⟩
  · obtain ⟨i, hi, rfl⟩ := List.getElem_of_mem hx
    obtain ⟨b, off, ts, ha, ht, hc⟩ := h3 i hi
    exact ht.str.2
/-- .. of slices. -/
theorem Holds.slices {β : Type} [Rep β] {w : World} {xs : List (List β)} {vs : List Value} (h : Holds w xs vs) : ∃ a cap, vs = [.slice a xs.length cap] ∧ xs.length ≤ cap ∧ cap ≤ maxLen ∧
    (∀ i (hi : i < xs.length), ∃ b off a' cap', a = some ⟨b, off, none⟩ ∧ w.cell? ⟨b, off + i, none⟩ = some (.slice a' (xs[i]'hi).length cap') ∧ Holds w (xs[i]'hi) [.slice a' (xs[i]'hi).length cap']) := by
  obtain ⟨a, cap, rfl, h1, h2, h3⟩ := h.slice
  refine ⟨a, cap, rfl, h1, h2, fun i hi => ?_⟩
  obtain ⟨b, off, ts, ha, ht, hc⟩ := h3 i hi
  have ht' := ht
  obtain ⟨a', cap', rfl, _⟩ := ht.slice
  have := hc 0 Rep.pos
  exact ⟨b, off, a', cap', ha, by simpa [Rep.size] using this, ht'⟩

/-- From block lo on, b is as a was. -/
def Agr (lo : Nat) (a b : World) : Prop := ∀ k, lo ≤ k → k < a.heap.size → b.heap[k]? = a.heap[k]?
theorem Agr.refl (lo : Nat) (a : World) : Agr lo a a := fun _ _ _ => rfl
theorem Agr.ex {lo : Nat} {a b c : World} (h : Agr lo a b) (hs : a.heap.size ≤ b.heap.size) (k : Ex b c) : Agr lo a c := fun i h1 h2 => (k.block (Nat.lt_of_lt_of_le h2 hs)).trans (h i h1 h2)
theorem Agr.plus {lo : Nat} {a b : World} {g : Gr} (hs : a.heap.size = b.heap.size) (hl : a.heap.size ≤ lo) : Agr lo (a.plus g) (b.plus g) := by
  intro i h1 h2
  simp only [World.plus]
  rw [Array.getElem?_append_right (by omega), Array.getElem?_append_right (by omega), hs]
theorem Owns.agr {α : Type} [Rep α] {lo : Nat} {w w' : World} {a : α} {vs : List Value} (h : Owns lo w a vs) (hx : Agr lo w w') : Owns lo w' a vs := by
  obtain ⟨bs, h, hn, hb⟩ := h
  have hh : ∀ b ∈ bs, w'.heap[b]? = w.heap[b]? := fun b hb' => hx b (hb b hb').1 (Rep.lt h b hb')
  exact ⟨bs, Rep.stable h hh, hn, fun b hb' => ⟨(hb b hb').1, fun o => by rw [World.frozen?_of_block (w := w) (hh b hb')]; exact (hb b hb').2 o⟩⟩
/-- A result in new memory: a value that owns its slices, in blocks from the heap's old end on. -/
def RetOwn {α : Type} [Rep α] (w : World) (x : α) (e : Ending) (w' : World) : Prop := ∃ v, e = .returned v ∧ Owns w.heap.size w' x v.cells.toList ∧ Ex w w'
/-- .. a slice. -/
def RetSl {α : Type} [Rep α] (w : World) (xs : List α) (e : Ending) (w' : World) : Prop := ∃ a cap, e = .returned (.slice a xs.length cap) ∧ Owns w.heap.size w' xs [.slice a xs.length cap] ∧ Ex w w'

/-- A new row of numbers is owned. -/
theorem owns_ints {w : World} {lo B cap : Nat} {xs : List Int} {C : Array Value} {E : TypeId} (hB : w.heap[B]? = some (.cells C E (0, 0))) (hlo : lo ≤ B) (h1 : xs.length ≤ cap) (h2 : cap ≤ C.size) (hm : cap ≤ maxLen)
    (hC : ∀ i (hi : i < xs.length), C[i]? = some (.int .i64 (xs[i]'hi))) (hok : ∀ x ∈ xs, i64ok x) : Owns lo w xs [.slice (some ⟨B, 0, none⟩) xs.length cap] := by
  by_cases h0 : cap = 0
  · subst h0
    exact ⟨[], ⟨_, _, rfl, h1, hm, .inl ⟨rfl, rfl⟩⟩, List.nodup_nil, fun b hb => by cases hb⟩
  · refine ⟨[B], ⟨_, _, rfl, h1, hm, .inr ⟨B, 0, C, E, (0, 0), fun i => [.int .i64 (xs.getD i 0)], fun _ => [], rfl, by omega, hB, by simp [Rep.size]; exact h2, by simp, fun i hi => ⟨⟨?_, rfl, hok _ (List.getElem_mem hi)⟩, fun j hj => ?_⟩⟩⟩, by simp, fun b hb => ?_⟩
    · simp [List.getD, List.getElem?_eq_getElem hi]
    · have hj' : j = 0 := by simp [Rep.size] at hj; exact hj
      subst hj'
      simpa [Rep.size, List.getD, List.getElem?_eq_getElem hi] using hC i hi
    · simp at hb; subst hb
      exact ⟨hlo, frozen_row hB⟩
end Go
