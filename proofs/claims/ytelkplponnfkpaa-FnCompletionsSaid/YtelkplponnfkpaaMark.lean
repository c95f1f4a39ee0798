/- Marking: worlds in which some blocks have turned; the law helpers markIntS, heldIntS. -/
import Derived.Test.YtelkplponnfkpaaRows
import Derived.Test.YtelkplponnfkpaaReg
namespace Go
open Go.RowKit
/-- The world with other contents in the blocks bs. -/
def World.upd (w : World) (bs : List Nat) (h : Nat → Obj) : World := { w with heap := w.heap.mapIdx fun i o => if i ∈ bs then h i else o }
section
variable (w : World) (bs : List Nat) (h : Nat → Obj)
@[go_sem, simp] theorem World.size_upd : (w.upd bs h).heap.size = w.heap.size := by simp [World.upd]
theorem World.block_upd {n : Nat} (hn : n ∉ bs) : (w.upd bs h).heap[n]? = w.heap[n]? := by
  simp only [World.upd, Array.getElem?_mapIdx]
  cases w.heap[n]? with
  | none => rfl
  | some o => simp [hn]
theorem World.block_upd_in {n : Nat} (hn : n ∈ bs) (hl : n < w.heap.size) : (w.upd bs h).heap[n]? = some (h n) := by
  simp only [World.upd, Array.getElem?_mapIdx]
  rw [Array.getElem?_eq_getElem hl]
  simp [hn]
@[go_sem] theorem World.cell?_upd (n i : Nat) (hn : n ∉ bs) : (w.upd bs h).cell? ⟨n, i, none⟩ = w.cell? ⟨n, i, none⟩ := by
  simp only [World.cell?, World.block_upd w bs h hn]
@[go_sem] theorem World.frozen?_upd (n i : Nat) (hn : n ∉ bs) : (w.upd bs h).frozen? ⟨n, i, none⟩ = w.frozen? ⟨n, i, none⟩ := by
  simp only [World.frozen?, World.block_upd w bs h hn]
@[go_sem] theorem World.setCell_upd (n i : Nat) (v : Value) (hn : n ∉ bs) : (w.upd bs h).setCell ⟨n, i, none⟩ v = (w.setCell ⟨n, i, none⟩ v).upd bs h := by
  unfold World.upd World.setCell
  simp only
  congr 1
  apply Array.ext_getElem?
  intro k
  simp only [Array.getElem?_modify, Array.getElem?_mapIdx]
  by_cases hk : n = k
  · subst hk
    cases w.heap[n]? with
    | none => simp
    | some o => simp [hn]
  · simp only [if_neg hk]
@[go_sem] theorem World.drew_upd : w.drew.upd bs h = (w.upd bs h).drew := rfl
theorem World.upd_self (hs : ∀ b ∈ bs, w.heap[b]? = some (h b)) : w.upd bs h = w := by
  have : (w.heap.mapIdx fun i o => if i ∈ bs then h i else o) = w.heap := by
    apply Array.ext_getElem?
    intro i
    rw [Array.getElem?_mapIdx]
    by_cases hi : i ∈ bs
    · rw [hs i hi]; simp [hi]
    · cases w.heap[i]? with
      | none => rfl
      | some o => simp [hi]
  unfold World.upd
  rw [this]
theorem World.upd_setCell {b : Nat} (C : Array Value) (E : TypeId) (fr : Nat × Nat) (i : Nat) (v : Value) : (w.upd [b] (fun _ => .cells C E fr)).setCell ⟨b, i, none⟩ v = w.upd [b] (fun _ => .cells (C.setIfInBounds i v) E fr) := by
  unfold World.upd World.setCell
  simp only
  congr 1
  apply Array.ext_getElem?
  intro k
  simp only [Array.getElem?_modify, Array.getElem?_mapIdx]
  by_cases hk : b = k
  · subst hk
    cases w.heap[b]? with
    | none => simp
    | some o => simp
  · rw [if_neg hk]
    cases w.heap[k]? with
    | none => rfl
    | some o => simp [Ne.symm hk]
end
theorem Ex.upd {a b : World} (h : Ex a b) {bs : List Nat} {f : Nat → Obj} (hb : ∀ x ∈ bs, a.heap.size ≤ x) : Ex a (b.upd bs f) := by
  have hx := h.below
  refine Ex.of_below ⟨hx.os, hx.tape, hx.output, by simp [hx.size], fun k hk => ?_⟩
  rw [World.block_upd b bs f (fun hm => by have := hb k hm; omega)]
  exact hx.block k hk

theorem row_updO {w : World} {n : Nat} {bs : List Nat} {f : Nat → Obj} {o : Obj} (hn : n ∉ bs) (h : w.heap[n]? = some o) : (w.upd bs f).heap[n]? = some o := (World.block_upd w bs f hn).trans h
theorem row_updN {w : World} {n m : Nat} {f : Nat → Obj} {o : Obj} (hn : n ≠ m) (h : w.heap[n]? = some o) : (w.upd [m] f).heap[n]? = some o := row_updO (by simpa using hn) h
theorem row_setO {w : World} {n : Nat} {p : Addr} {x : Value} {o : Obj} (hn : n ≠ p.block) (h : w.heap[n]? = some o) : (w.setCell p x).heap[n]? = some o := (row_setCell_other hn x).trans h
theorem row_plus {w : World} {n : Nat} {g : Gr} {o : Obj} (h : w.heap[n]? = some o) : (w.plus g).heap[n]? = some o := Ex.row ((Ex.refl _).plus _) h
theorem row_allocO {w : World} {n : Nat} {x : Obj} {o : Obj} (h : w.heap[n]? = some o) : (w.alloc x).heap[n]? = some o := Ex.row ((Ex.refl _).alloc _) h
theorem row_drew {w : World} {n : Nat} {o : Obj} (h : w.heap[n]? = some o) : w.drew.heap[n]? = some o := h
theorem row_allocN {w : World} {n : Nat} {o : Obj} (h : n = w.heap.size) : (w.alloc o).heap[n]? = some o := by subst h; exact row_alloc _ _
def Value.blk : Value → List Nat
  | .slice (some a) _ _ => [a.block]
  | _ => []
@[go_sem] theorem blk_some (a : Addr) (n c : Nat) : (Value.slice (some a) n c).blk = [a.block] := rfl
@[go_sem] theorem blk_none (n c : Nat) : (Value.slice none n c).blk = [] := rfl
@[go_sem] theorem notin_one {n m : Nat} : (n ∉ [m]) = (n ≠ m) := by simp
@[go_sem] theorem notin_nil {n : Nat} : (n ∉ ([] : List Nat)) = True := by simp
theorem Ex.upd1 {a b : World} (h : Ex a b) {m : Nat} {f : Nat → Obj} (hm : a.heap.size ≤ m) : Ex a (b.upd [m] f) := h.upd fun x hx => by rw [List.mem_singleton.1 hx]; exact hm
theorem Ex.updS {a b : World} (h : Ex a b) {ad : Addr} {n c : Nat} {f : Nat → Obj} (hm : a.heap.size ≤ ad.block) : Ex a (b.upd (Value.slice (some ad) n c).blk f) := h.upd1 hm
theorem Ex.upd0 {a b : World} (h : Ex a b) {f : Nat → Obj} : Ex a (b.upd [] f) := h.upd fun x hx => by cases hx
theorem Agr.of_le {lo : Nat} {a b : World} (h : a.heap.size ≤ lo) : Agr lo a b := fun k h1 h2 => by omega
theorem Agr.drewL {lo : Nat} {a b : World} (h : Agr lo a b) : Agr lo a.drew b := h
theorem Agr.drewR {lo : Nat} {a b : World} (h : Agr lo a b) : Agr lo a b.drew := h
theorem Agr.alloc' {lo : Nat} {a b : World} (hs : a.heap.size = b.heap.size) (h : Agr lo a b) (o : Obj) : Agr lo (a.alloc o) (b.alloc o) := by
  intro k h1 h2
  show (b.heap.push o)[k]? = (a.heap.push o)[k]?
  rw [Array.getElem?_push, Array.getElem?_push, hs]
  split
  · rfl
  · simp at h2; exact h k h1 (by omega)
theorem Agr.plus' {lo : Nat} {a b : World} (hs : a.heap.size = b.heap.size) (h : Agr lo a b) (g : Gr) : Agr lo (a.plus g) (b.plus g) := by
  intro k h1 h2
  simp only [World.plus]
  by_cases hk : k < a.heap.size
  · rw [Array.getElem?_append_left hk, Array.getElem?_append_left (by omega)]; exact h k h1 hk
  · rw [Array.getElem?_append_right (by omega), Array.getElem?_append_right (by omega), hs]
theorem Agr.plusR {lo : Nat} {a b : World} (hs : a.heap.size ≤ b.heap.size) (h : Agr lo a b) (g : Gr) : Agr lo a (b.plus g) := Agr.ex h hs ((Ex.refl _).plus g)
theorem Agr.allocR {lo : Nat} {a b : World} (hs : a.heap.size ≤ b.heap.size) (h : Agr lo a b) (o : Obj) : Agr lo a (b.alloc o) := Agr.ex h hs ((Ex.refl _).alloc o)
theorem Agr.setLoR {lo : Nat} {a b : World} (h : Agr lo a b) {p : Addr} (hp : p.block < lo) (v : Value) : Agr lo a (b.setCell p v) := fun k h1 h2 => (row_setCell_other (by omega) v).trans (h k h1 h2)
theorem Agr.setLoL {lo : Nat} {a b : World} (h : Agr lo a b) {p : Addr} (hp : p.block < lo) (v : Value) : Agr lo (a.setCell p v) b := fun k h1 h2 => (h k h1 (by simpa using h2)).trans (row_setCell_other (by omega) v).symm
theorem Agr.upd' {lo : Nat} {a b : World} (hs : a.heap.size = b.heap.size) (h : Agr lo a b) (bs : List Nat) (f : Nat → Obj) : Agr lo (a.upd bs f) (b.upd bs f) := by
  intro k h1 h2
  simp only [World.size_upd] at h2
  by_cases hk : k ∈ bs
  · rw [World.block_upd_in a bs f hk h2, World.block_upd_in b bs f hk (by omega)]
  · rw [World.block_upd a bs f hk, World.block_upd b bs f hk]; exact h k h1 h2
/-- Owned, in blocks from lo on, below hi. -/
def OwnsIn {α : Type} [Rep α] (lo hi : Nat) (w : World) (a : α) (vs : List Value) (bs : List Nat) : Prop :=
  Rep.tree w a vs bs ∧ bs.Nodup ∧ (∀ b ∈ bs, lo ≤ b ∧ b < hi) ∧ ∀ b ∈ bs, ∀ o, w.frozen? ⟨b, o, none⟩ = false
theorem Owns.inn {α : Type} [Rep α] {lo : Nat} {w : World} {a : α} {vs : List Value} (h : Owns lo w a vs) : ∃ bs, OwnsIn lo w.heap.size w a vs bs := by
  obtain ⟨bs, h1, h2, h3⟩ := h
  exact ⟨bs, h1, h2, fun b hb => ⟨(h3 b hb).1, Rep.lt h1 b hb⟩, fun b hb => (h3 b hb).2⟩
theorem OwnsIn.holds {α : Type} [Rep α] {lo hi : Nat} {w : World} {a : α} {vs : List Value} {bs : List Nat} (h : OwnsIn lo hi w a vs bs) : Holds w a vs := ⟨bs, h.1⟩
theorem OwnsIn.ex {α : Type} [Rep α] {lo hi : Nat} {w w' : World} {a : α} {vs : List Value} {bs : List Nat} (h : OwnsIn lo hi w a vs bs) (hx : Ex w w') : OwnsIn lo hi w' a vs bs :=
  ⟨Rep.stable h.1 fun b hb => hx.block (Rep.lt h.1 b hb), h.2.1, h.2.2.1, fun b hb o => by rw [hx.frozen (p := ⟨b, o, none⟩) (Rep.lt h.1 b hb)]; exact h.2.2.2 b hb o⟩
theorem OwnsIn.upd {α : Type} [Rep α] {lo hi : Nat} {w : World} {a : α} {vs : List Value} {bs cs : List Nat} {f : Nat → Obj} (h : OwnsIn lo hi w a vs bs) (hc : ∀ c ∈ cs, c < lo ∨ hi ≤ c) : OwnsIn lo hi (w.upd cs f) a vs bs := by
  have hn : ∀ b ∈ bs, b ∉ cs := fun b hb hm => by
    have h1 := h.2.2.1 b hb
    have h2 := hc b hm
    omega
  exact ⟨Rep.stable h.1 fun b hb => World.block_upd w cs f (hn b hb), h.2.1, h.2.2.1, fun b hb o => by rw [World.frozen?_upd w cs f b o (hn b hb)]; exact h.2.2.2 b hb o⟩

theorem OwnsIn.tree {α : Type} [Rep α] {lo hi : Nat} {w : World} {a : α} {vs : List Value} {bs : List Nat} (h : OwnsIn lo hi w a vs bs) : Rep.tree w a vs bs := h.1
theorem OwnsIn.nd {α : Type} [Rep α] {lo hi : Nat} {w : World} {a : α} {vs : List Value} {bs : List Nat} (h : OwnsIn lo hi w a vs bs) : bs.Nodup := h.2.1
theorem OwnsIn.rng {α : Type} [Rep α] {lo hi : Nat} {w : World} {a : α} {vs : List Value} {bs : List Nat} (h : OwnsIn lo hi w a vs bs) : ∀ b ∈ bs, lo ≤ b ∧ b < hi := h.2.2.1
theorem OwnsIn.fz {α : Type} [Rep α] {lo hi : Nat} {w : World} {a : α} {vs : List Value} {bs : List Nat} (h : OwnsIn lo hi w a vs bs) : ∀ b ∈ bs, ∀ o, w.frozen? ⟨b, o, none⟩ = false := h.2.2.2
theorem OwnsIn.mk' {α : Type} [Rep α] {lo hi : Nat} {w : World} {a : α} {vs : List Value} {bs : List Nat} (h1 : Rep.tree w a vs bs) (h2 : bs.Nodup) (h3 : ∀ b ∈ bs, lo ≤ b ∧ b < hi) (h4 : ∀ b ∈ bs, ∀ o, w.frozen? ⟨b, o, none⟩ = false) : OwnsIn lo hi w a vs bs := ⟨h1, h2, h3, h4⟩
theorem OwnsIn.lower {α : Type} [Rep α] {lo lo' hi : Nat} {w : World} {a : α} {vs : List Value} {bs : List Nat} (h : OwnsIn lo hi w a vs bs) (hl : lo' ≤ lo) : OwnsIn lo' hi w a vs bs :=
  ⟨h.1, h.2.1, fun b hb => ⟨Nat.le_trans hl (h.2.2.1 b hb).1, (h.2.2.1 b hb).2⟩, h.2.2.2⟩
theorem OwnsIn.marked {α : Type} [Rep α] {lo hi : Nat} {W Wp W1 : World} {a : α} {vs : List Value} {bs cs : List Nat} {f : Nat → Obj} {g : Gr} (h : OwnsIn lo hi W a vs bs) (hx : Ex W Wp) (hw : W1 = (Wp.upd cs f).plus g) (hc : ∀ c ∈ cs, c < lo ∨ hi ≤ c) : OwnsIn lo hi W1 a vs bs := by
  rw [hw]; exact ((h.ex hx).upd hc).ex ((Ex.refl _).plus _)
theorem Ex.marked {w W Wp W1 : World} {cs : List Nat} {f : Nat → Obj} {g : Gr} (h : Ex w W) (hx : Ex W Wp) (hw : W1 = (Wp.upd cs f).plus g) (hc : ∀ c ∈ cs, w.heap.size ≤ c) : Ex w W1 := by
  rw [hw]; exact ((h.trans hx).upd hc).plus _
theorem row_marked {W Wp W1 : World} {cs : List Nat} {f : Nat → Obj} {g : Gr} {b : Nat} {o : Obj} (h : W.heap[b]? = some o) (hx : Ex W Wp) (hw : W1 = (Wp.upd cs f).plus g) (hb : b ∉ cs) : W1.heap[b]? = some o := by
  rw [hw]; exact row_plus (row_updO hb (hx.row h))
theorem size_marked {W Wp W1 : World} {cs : List Nat} {f : Nat → Obj} {g : Gr} (hx : Ex W Wp) (hw : W1 = (Wp.upd cs f).plus g) : W.heap.size ≤ W1.heap.size := by
  rw [hw]; have := hx.size; simp; omega
/-- Marking: the blocks bs hold y now where they held something of that shape. -/
def Marked {α : Type} [Rep α] (w : World) (y : α) (vs : List Value) (bs : List Nat) (k : Int) (e : Ending) (w' : World) : Prop :=
  ∃ f g, e = .returned (.int .i64 k) ∧ w' = (w.upd bs f).plus g ∧ Rep.tree w' y vs bs ∧ ∀ b ∈ bs, ∀ o, w'.frozen? ⟨b, o, none⟩ = false
def marks (n : Nat) (k : Int) : List Int := (List.range n).map fun (i : Nat) => k + (i : Int)
theorem marks_length (n : Nat) (k : Int) : (marks n k).length = n := by simp [marks]
theorem marks_get {n : Nat} {k : Int} {i : Nat} (h : i < (marks n k).length) : (marks n k)[i] = k + (i : Int) := by simp [marks]
theorem marks_ok {n : Nat} {k : Int} (h0 : 0 ≤ k) (h1 : k + n ≤ 4611686018427387904) : ∀ x ∈ marks n k, i64ok x := by
  intro x hx
  obtain ⟨i, hi, rfl⟩ := List.getElem_of_mem hx
  rw [marks_get]
  rw [marks_length] at hi
  unfold i64ok; omega
end Go
namespace Go.Proofs.Ytelkplponnfkpaa
open Go.RowKit
set_option linter.unusedVariables false

set_option maxHeartbeats 1000000 in
theorem markIntS_any (v : Value) (xs : List Int) (bs : List Nat) (k : Int) (w : World) (ht : Rep.tree w xs [v] bs) (hf : ∀ b ∈ bs, ∀ o, w.frozen? ⟨b, o, none⟩ = false) (k0 : 0 ≤ k) (k1 : k + xs.length ≤ 4611686018427387904) :
    Calls Try.prog 107 #[v, .int .i64 k] w (Marked w (marks xs.length k) [v] bs (k + xs.length)) := by
  obtain ⟨a, cap, hv, h1, h2, h3⟩ := ht
  simp only [List.cons.injEq, and_true] at hv
  subst hv
  unfold maxLen at h2
  rcases h3 with ⟨rfl, rfl⟩ | ⟨b, off, cur, E, fr, ts, ds, rfl, hp, hb, hs, rfl, he⟩
  · have hn : xs.length = 0 := by omega
    have hxs : xs = [] := List.eq_nil_of_length_eq_zero hn
    subst hxs
    go_enter Try.func107, Try.ntmps107
    go_wp2
    go_loop [1, 5] (fun q i => q = .int .i64 k ∧ i = .int .i64 0) (fun _ _ => 0)
    case atStart => exact ⟨rfl, rfl⟩
    case round =>
      obtain ⟨rfl, rfl⟩ := hrel
      go_wp2
      go_ret
      exact ⟨fun _ => default, ⟨#[], w.drawn⟩, ret_int (by simp), by rw [World.upd_self _ _ _ (fun b hb => by cases hb)]; exact w.self_is_plus, ⟨_, _, rfl, by simp [marks], by decide, .inl ⟨rfl, rfl⟩⟩, fun b hb => by cases hb⟩
  · have hds : (List.range xs.length).flatMap ds = [] := by
      rw [List.flatMap_eq_nil_iff]
      intro i hi
      exact (he i (List.mem_range.1 hi)).1.2.1
    have hfb := hf b (List.mem_cons_self ..)
    rw [hds]
    simp only [Rep.size, Nat.mul_one] at hs
    have hlb := row_lt hb
    have hself : w.upd [b] (fun _ => .cells cur E fr) = w := World.upd_self _ _ _ (fun c hc => by simp at hc; subst hc; exact hb)
    clear he hf
    go_enter Try.func107, Try.ntmps107
    go_wp2
    go_loopw [1, 5] (fun q i wr => ∃ j : Nat, j ≤ xs.length ∧ q = .int .i64 (k + j) ∧ i = .int .i64 j ∧ ∃ C, wr = w.upd [b] (fun _ => .cells C E fr) ∧ C.size = cur.size ∧ ∀ m, m < j → C[off + m]? = some (.int .i64 (k + m))) (fun _ i _ => xs.length - (intOf i).toNat)
    case atStart => exact ⟨0, Nat.zero_le _, by simp, rfl, cur, hself.symm, rfl, fun m hm => by omega⟩
    case round =>
      obtain ⟨j, hj, rfl, rfl, C, hw, hC, hm⟩ := hrel
      have hrow : wr.heap[b]? = some (.cells C E fr) := by rw [hw]; exact World.block_upd_in w [b] _ (List.mem_singleton.2 rfl) hlb
      by_cases hlt : j < xs.length
      · have c1 : wr.cell? ⟨b, off + j, none⟩ = some (C[off + j]'(by omega)) := by rw [cell_row hrow]; simp
        have c2 : wr.frozen? ⟨b, off + j, none⟩ = false := by
          have := hfb (off + j)
          simp only [World.frozen?, hb] at this
          simp only [World.frozen?, hrow]
          exact this
        have HW := hid hw
        have HM := hid hm
        clear hw hm hrow hself hb hfb
        go_wp2
        go_roundw
        case rel =>
          refine ⟨j + 1, by omega, by go_num, by go_num, C.setIfInBounds (off + j) (.int .i64 (k + j)), by rw [HW.out]; exact World.upd_setCell _ _ _ _ _ _, by simpa using hC, fun m hmj => ?_⟩
          by_cases e : m = j
          · subst e; rw [Array.getElem?_setIfInBounds]; simp; omega
          · rw [Array.getElem?_setIfInBounds, if_neg (by omega)]; exact HM.out m (by omega)
        case measure => simp [intOf]; omega
      · have e : j = xs.length := by omega
        have HW := hid hw
        have HM := hid hm
        have HR := hid hrow
        clear hw hm hrow hself
        go_wp2
        go_ret
        subst e
        refine ⟨fun _ => .cells C E fr, ⟨#[], w.drawn⟩, rfl, ?_, ⟨_, _, by rw [marks_length], by rw [marks_length]; exact h1, h2, .inr ⟨b, off, C, E, fr, fun i => [.int .i64 ((marks xs.length k).getD i 0)], fun _ => [], rfl, hp, HR.out, by simp only [Rep.size]; omega, by simp, fun i hi => ?_⟩⟩, fun c hc o => ?_⟩
        · rw [HW.out]; exact World.self_is_plus _
        · rw [marks_length] at hi
          refine ⟨⟨by simp [List.getD, hi, marks_length], rfl, marks_ok k0 (by omega) _ (List.getElem_mem _)⟩, fun q hq => ?_⟩
          obtain rfl : q = 0 := by simp [Rep.size] at hq; exact hq
          simp only [Rep.size, Nat.mul_one, Nat.add_zero]
          rw [HM.out i hi]
          simp [List.getD, marks, hi]
        · simp only [List.mem_singleton] at hc
          subst hc
          have := hfb o
          simp only [World.frozen?, hb] at this
          simp only [World.frozen?, HR.out]
          exact this
end Go.Proofs.Ytelkplponnfkpaa
