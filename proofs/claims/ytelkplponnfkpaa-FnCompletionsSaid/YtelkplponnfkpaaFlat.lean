/- Data whose cells are the data alone (no slices inside), and slices of it. No program in sight. -/
import Derived.Test.YtelkplponnfkpaaApp
namespace Go
open Go.RowKit
set_option linter.unusedVariables false

class Flat (α : Type) [Rep α] where
  cells : α → List Value
  ok : α → Prop
  tree : ∀ {w : World} {a : α} {vs : List Value} {bs : List Nat}, Rep.tree w a vs bs ↔ vs = cells a ∧ bs = [] ∧ ok a
  len : ∀ a : α, (cells a).length = Rep.size α
  one : ∀ (a : α), ∀ u ∈ cells a, u.oneCell' = true
instance : Flat Int where
  cells n := [.int .i64 n]
  ok := i64ok
  tree := Iff.rfl
  len _ := rfl
  one _ u hu := by simp at hu; subst hu; rfl
instance : Flat Bool where
  cells n := [.bool n]
  ok _ := True
  tree := by intro _ _ _ _; simp [Rep.tree]
  len _ := rfl
  one _ u hu := by simp at hu; subst hu; rfl
instance : Flat ByteArray where
  cells n := [.string n]
  ok s := s.size ≤ maxLen
  tree := Iff.rfl
  len _ := rfl
  one _ u hu := by simp at hu; subst hu; rfl
instance : Flat UInt8 where
  cells n := [.int .u8 n.toNat]
  ok _ := True
  tree := by intro _ _ _ _; simp [Rep.tree]
  len _ := rfl
  one _ u hu := by simp at hu; subst hu; rfl
instance {α β : Type} [Rep α] [Rep β] [Flat α] [Flat β] : Flat (α × β) where
  cells x := Flat.cells x.1 ++ Flat.cells x.2
  ok x := Flat.ok x.1 ∧ Flat.ok x.2
  tree := by
    intro w x vs bs
    constructor
    · rintro ⟨v1, v2, b1, b2, rfl, rfl, h1, h2⟩
      obtain ⟨rfl, rfl, o1⟩ := Flat.tree.1 h1
      obtain ⟨rfl, rfl, o2⟩ := Flat.tree.1 h2
      exact ⟨rfl, rfl, o1, o2⟩
    · rintro ⟨rfl, rfl, o1, o2⟩
      exact ⟨_, _, [], [], rfl, rfl, Flat.tree.2 ⟨rfl, rfl, o1⟩, Flat.tree.2 ⟨rfl, rfl, o2⟩⟩
  len x := by rw [List.length_append, Flat.len, Flat.len]; rfl
  one x u hu := by
    rcases List.mem_append.1 hu with h | h
    · exact Flat.one _ u h
    · exact Flat.one _ u h

section
variable {α : Type} [Rep α] [Flat α]
theorem Holds.flat1 {w : World} {a : α} {vs : List Value} (h : Holds w a vs) : vs = Flat.cells a ∧ Flat.ok a := by
  obtain ⟨bs, h⟩ := h
  obtain ⟨h1, _, h2⟩ := Flat.tree.1 h
  exact ⟨h1, h2⟩
theorem holds_flat (w : World) {a : α} (h : Flat.ok a) : Holds w a (Flat.cells a) := ⟨[], Flat.tree.2 ⟨rfl, rfl, h⟩⟩
/-- A slice of flat data, opened. -/
theorem Holds.flat {w : World} {xs : List α} {vs : List Value} (h : Holds w xs vs) : ∃ a cap, vs = [.slice a xs.length cap] ∧ xs.length ≤ cap ∧ cap ≤ maxLen ∧
    (∀ i (hi : i < xs.length), ∃ b off, a = some ⟨b, off, none⟩ ∧ ∀ j, j < Rep.size α → w.cell? ⟨b, off + i * Rep.size α + j, none⟩ = (Flat.cells (xs[i]'hi))[j]?) ∧ ∀ x ∈ xs, Flat.ok x := by
  obtain ⟨a, cap, rfl, h1, h2, h3⟩ := h.slice
  refine ⟨a, cap, rfl, h1, h2, fun i hi => ?_, fun x hx => ?_⟩
  · obtain ⟨b, off, ts, ha, ht, hc⟩ := h3 i hi
    obtain ⟨rfl, _⟩ := ht.flat1
    exact ⟨b, off, ha, hc⟩
  · obtain ⟨i, hi, rfl⟩ := List.getElem_of_mem hx
    obtain ⟨b, off, ts, ha, ht, hc⟩ := h3 i hi
    exact ht.flat1.2
theorem Holds.srcFlat {P : Program} {w : World} {xs : List α} {a : Option Addr} {n cap : Nat} (h : Holds w xs [.slice a n cap]) {tx e' : TypeId} (hk : P.underlying tx = some (.slice e')) : Src P (Rep.size α) tx (.slice a n cap) n (xs.flatMap Flat.cells) w :=
  h.src hk Flat.cells (fun x _ vs hv => hv.flat1.1) (fun x _ u hu => Flat.one x u hu)
theorem flat_len : ∀ xs : List α, (xs.flatMap Flat.cells).length = xs.length * Rep.size α
  | [] => by simp
  | x :: xs => by rw [List.flatMap_cons, List.length_append, Flat.len, flat_len xs, List.length_cons, Nat.succ_mul, Nat.add_comm]
theorem flat_get : ∀ (xs : List α) (i : Nat) (hi : i < xs.length) (j : Nat), j < Rep.size α → (xs.flatMap Flat.cells)[i * Rep.size α + j]? = (Flat.cells xs[i])[j]?
  | x :: xs, 0, hi, j, hj => by rw [List.flatMap_cons, Nat.zero_mul, Nat.zero_add, List.getElem?_append_left (by rw [Flat.len]; omega)]; rfl
  | x :: xs, i + 1, hi, j, hj => by
    rw [List.flatMap_cons, List.getElem?_append_right (by rw [Flat.len, Nat.succ_mul]; omega), Flat.len, show (i + 1) * Rep.size α + j - Rep.size α = i * Rep.size α + j from by rw [Nat.succ_mul]; omega]
    exact flat_get xs i (by simpa using hi) j hj
/-- A row of cells that are flat data is an owned list. -/
theorem Slot.flat {lo : Nat} {w : World} {E : TypeId} {v : Value} {n : Nat} {xs : List α} (h : Slot lo w E (Rep.size α) v n (xs.flatMap Flat.cells)) (hok : ∀ x ∈ xs, Flat.ok x) : n = xs.length ∧ Owns lo w xs [v] := by
  obtain ⟨h1, h2⟩ := h
  have hpos := Rep.pos (α := α)
  rw [flat_len] at h1
  obtain rfl : n = xs.length := (Nat.eq_of_mul_eq_mul_right hpos h1).symm
  refine ⟨rfl, ?_⟩
  rcases h2 with ⟨rfl, h0⟩ | ⟨b, off, cap, cur, rfl, h3, h4, h5, h6, h7, h8⟩
  · have : xs = [] := List.eq_nil_of_length_eq_zero h0
    subst this
    exact ⟨[], ⟨_, _, rfl, Nat.le_refl _, Nat.zero_le _, .inl ⟨rfl, rfl⟩⟩, List.nodup_nil, fun b hb => by cases hb⟩
  · by_cases hc : cap = 0
    · subst hc
      exact ⟨[], ⟨_, _, rfl, h5, h6, .inl ⟨rfl, rfl⟩⟩, List.nodup_nil, fun b hb => by cases hb⟩
    · haveI : Inhabited (List Value) := ⟨[]⟩
      refine ⟨[b], ⟨_, _, rfl, h5, h6, .inr ⟨b, off, cur, E, (0, 0), fun i => if h : i < xs.length then Flat.cells xs[i] else [], fun _ => [], rfl, by omega, h4, h7, by simp, fun i hi => ⟨?_, fun j hj => ?_⟩⟩⟩, by simp, fun c hc' => ?_⟩
      · simp only [dif_pos hi]; exact Flat.tree.2 ⟨rfl, rfl, hok _ (List.getElem_mem hi)⟩
      · simp only [dif_pos hi]
        rw [← flat_get xs i hi j hj, Nat.add_assoc]
        refine h8 _ ?_
        have := Nat.mul_le_mul_right (Rep.size α) (show i + 1 ≤ xs.length from hi)
        rw [Nat.succ_mul] at this
        omega
      · simp at hc'; subst hc'; exact ⟨h3, fun o => frozen_row h4 o⟩
end

theorem flatMap_same' {α β : Type} {f g : α → List β} : ∀ l : List α, (∀ x ∈ l, f x = g x) → l.flatMap f = l.flatMap g
  | [], _ => rfl
  | x :: l, h => by rw [List.flatMap_cons, List.flatMap_cons, h x (List.mem_cons_self ..), flatMap_same' l fun y hy => h y (List.mem_cons_of_mem _ hy)]
/-- A slice under way, whose elements (one cell each) hold the data xs in blocks of their own; bs: all its blocks. -/
def OwnL {α : Type} [Rep α] (lo : Nat) (w : World) (E : TypeId) (xs : List α) (v : Value) (vs : List Value) (bs : List Nat) : Prop :=
  Slot lo w E 1 v xs.length vs ∧ ∃ ds : Nat → List Nat, (∀ i (hi : i < xs.length), ∃ u, vs[i]? = some u ∧ Rep.tree w xs[i] [u] (ds i)) ∧ bs = v.blk ++ (List.range xs.length).flatMap ds ∧ bs.Nodup ∧
    ∀ i, i < xs.length → ∀ b ∈ ds i, lo ≤ b ∧ b < w.heap.size ∧ ∀ o, w.frozen? ⟨b, o, none⟩ = false
section
variable {α : Type} [Rep α]
theorem OwnL.slot {lo : Nat} {w : World} {E : TypeId} {xs : List α} {v : Value} {vs : List Value} {bs : List Nat} (h : OwnL lo w E xs v vs bs) : Slot lo w E 1 v xs.length vs := h.1
theorem blk_nodup (v : Value) : v.blk.Nodup := by
  unfold Value.blk; split <;> simp
theorem OwnL.of_nil {lo : Nat} {w : World} {E : TypeId} {v : Value} (h : Slot lo w E 1 v 0 []) : OwnL lo w E ([] : List α) v [] v.blk :=
  ⟨h, fun _ => [], fun i hi => absurd hi (Nat.not_lt_zero _), by simp, blk_nodup v, fun i hi => absurd hi (Nat.not_lt_zero _)⟩
theorem OwnL.rng {lo : Nat} {w : World} {E : TypeId} {xs : List α} {v : Value} {vs : List Value} {bs : List Nat} (h : OwnL lo w E xs v vs bs) : ∀ b ∈ bs, lo ≤ b ∧ b < w.heap.size := by
  obtain ⟨hs, ds, h1, rfl, h2, h3⟩ := h
  intro b hb
  rcases List.mem_append.1 hb with hb | hb
  · exact hs.blk_lt b hb
  · obtain ⟨i, hi, hb⟩ := List.mem_flatMap.1 hb
    have := h3 i (List.mem_range.1 hi) b hb
    exact ⟨this.1, this.2.1⟩
theorem OwnL.blk {lo : Nat} {w : World} {E : TypeId} {xs : List α} {v : Value} {vs : List Value} {bs : List Nat} (h : OwnL lo w E xs v vs bs) : ∀ b ∈ v.blk, b ∈ bs := by
  obtain ⟨hs, ds, h1, rfl, h2, h3⟩ := h
  exact fun b hb => List.mem_append_left _ hb
theorem OwnL.stay {lo : Nat} {w w' : World} {E : TypeId} {xs : List α} {v : Value} {vs : List Value} {bs : List Nat} (h : OwnL lo w E xs v vs bs) (hs : w.heap.size ≤ w'.heap.size) (hb : ∀ b ∈ bs, w'.heap[b]? = w.heap[b]?) : OwnL lo w' E xs v vs bs := by
  obtain ⟨hs', ds, h1, rfl, h2, h3⟩ := h
  have hin : ∀ i, i < xs.length → ∀ b ∈ ds i, w'.heap[b]? = w.heap[b]? := fun i hi b hm => hb b (List.mem_append_right _ (List.mem_flatMap.2 ⟨i, List.mem_range.2 hi, hm⟩))
  refine ⟨hs'.stay fun b hm => hb b (List.mem_append_left _ hm), ds, fun i hi => ?_, rfl, h2, fun i hi b hm => ?_⟩
  · obtain ⟨u, hu, ht⟩ := h1 i hi
    exact ⟨u, hu, Rep.stable ht (hin i hi)⟩
  · obtain ⟨k1, k2, k3⟩ := h3 i hi b hm
    exact ⟨k1, Nat.lt_of_lt_of_le k2 hs, fun o => by rw [World.frozen?_of_block (w := w) (hin i hi b hm)]; exact k3 o⟩
theorem OwnL.ex {lo : Nat} {w w' : World} {E : TypeId} {xs : List α} {v : Value} {vs : List Value} {bs : List Nat} (h : OwnL lo w E xs v vs bs) (hx : Ex w w') : OwnL lo w' E xs v vs bs :=
  h.stay hx.size fun b hb => hx.block (h.rng b hb).2
theorem OwnL.agr {lo : Nat} {w w' : World} {E : TypeId} {xs : List α} {v : Value} {vs : List Value} {bs : List Nat} (h : OwnL lo w E xs v vs bs) (hs : w.heap.size ≤ w'.heap.size) (hx : Agr lo w w') : OwnL lo w' E xs v vs bs :=
  h.stay hs fun b hb => hx b (h.rng b hb).1 (h.rng b hb).2
theorem OwnL.plus {lo : Nat} {w : World} {E : TypeId} {xs : List α} {v : Value} {vs : List Value} {bs : List Nat} (h : OwnL lo w E xs v vs bs) (g : Gr) : OwnL lo (w.plus g) E xs v vs bs := h.ex ((Ex.refl _).plus g)
theorem OwnL.alloc {lo : Nat} {w : World} {E : TypeId} {xs : List α} {v : Value} {vs : List Value} {bs : List Nat} (h : OwnL lo w E xs v vs bs) (o : Obj) : OwnL lo (w.alloc o) E xs v vs bs := h.ex ((Ex.refl _).alloc o)
theorem OwnL.drew {lo : Nat} {w : World} {E : TypeId} {xs : List α} {v : Value} {vs : List Value} {bs : List Nat} (h : OwnL lo w E xs v vs bs) : OwnL lo w.drew E xs v vs bs := h.ex (Ex.refl _).drew
theorem OwnL.setLo {lo : Nat} {w : World} {E : TypeId} {xs : List α} {v : Value} {vs : List Value} {bs : List Nat} (h : OwnL lo w E xs v vs bs) {p : Addr} (hp : p.block < lo) (x : Value) : OwnL lo (w.setCell p x) E xs v vs bs :=
  h.stay (by simp) fun b hb => row_setCell_other (by have := (h.rng b hb).1; omega) x
theorem OwnL.setN {lo : Nat} {w : World} {E : TypeId} {xs : List α} {v : Value} {vs : List Value} {bs : List Nat} (h : OwnL lo w E xs v vs bs) {p : Addr} (hp : p.block ∉ bs) (x : Value) : OwnL lo (w.setCell p x) E xs v vs bs :=
  h.stay (by simp) fun b hb => row_setCell_other (fun e => hp (e ▸ hb)) x
theorem OwnL.updN {lo : Nat} {w : World} {E : TypeId} {xs : List α} {v : Value} {vs : List Value} {bs : List Nat} (h : OwnL lo w E xs v vs bs) {cs : List Nat} {f : Nat → Obj} (hp : ∀ b ∈ bs, b ∉ cs) : OwnL lo (w.upd cs f) E xs v vs bs :=
  h.stay (by simp) fun b hb => World.block_upd w cs f (hp b hb)
/-- One element more: evaluated to u in new blocks, then appended. -/
theorem OwnL.app {lo : Nat} {w0 w w' : World} {E : TypeId} {xs : List α} {v v' : Value} {vs : List Value} {bs0 : List Nat} {y : α} {u : Value} (h : OwnL lo w0 E xs v vs bs0) (hx : Ex w0 w) (hlo : lo ≤ w0.heap.size)
    (ho : Owns w0.heap.size w y [u]) (hs : Slot lo w' E 1 v' (xs.length + 1) (vs ++ [u])) (hsz : w.heap.size ≤ w'.heap.size) (hv : ∀ b ∈ v'.blk, b ∈ v.blk ∨ w.heap.size ≤ b)
    (hw : ∀ b, b < w.heap.size → b ∉ v.blk → w'.heap[b]? = w.heap[b]?) : ∃ bs, OwnL lo w' E (xs ++ [y]) v' (vs ++ [u]) bs ∧ ∀ b ∈ bs, b ∈ bs0 ∨ w0.heap.size ≤ b := by
  obtain ⟨hs0, ds, h1, rfl, h2, h3⟩ := h
  obtain ⟨bs, t, nd, f⟩ := ho
  have hlen : vs.length = xs.length := by simpa using hs0.1
  have hbl := hs0.blk_lt
  rw [List.nodup_append] at h2
  obtain ⟨n1, n2, n3⟩ := h2
  have hds : ∀ i, i < xs.length → ∀ b ∈ ds i, b ∉ v.blk := fun i hi b hb hm => n3 b hm b (List.mem_flatMap.2 ⟨i, List.mem_range.2 hi, hb⟩) rfl
  have hbs : ∀ b ∈ bs, b ∉ v.blk := fun b hb hm => by have := (f b hb).1; have := (hbl b hm).2; omega
  have hsz0 := hx.size
  have e1 : (List.range (xs ++ [y]).length).flatMap (fun i => if i = xs.length then bs else ds i) = (List.range xs.length).flatMap ds ++ bs := by
    rw [List.length_append, List.length_singleton, List.range_succ, List.flatMap_append, flatMap_same' _ (g := ds) fun j hj => by rw [if_neg (by have := List.mem_range.1 hj; omega)]]
    simp
  refine ⟨v'.blk ++ ((List.range xs.length).flatMap ds ++ bs), ⟨by simpa using hs, fun i => if i = xs.length then bs else ds i, fun i hi => ?_, by rw [e1], ?_, fun i hi b hb => ?_⟩, fun b hb => ?_⟩
  · by_cases e : i = xs.length
    · subst e
      refine ⟨u, by rw [List.getElem?_append_right (by omega)]; simp [hlen], ?_⟩
      simp only [if_true, List.getElem_append_right (Nat.le_refl _), Nat.sub_self, List.getElem_cons_zero]
      exact Rep.stable t fun b hb => hw b (Rep.lt t b hb) (hbs b hb)
    · have hi' : i < xs.length := by simp at hi; omega
      obtain ⟨u', hu, ht⟩ := h1 i hi'
      refine ⟨u', by rw [List.getElem?_append_left (by omega)]; exact hu, ?_⟩
      simp only [if_neg e, List.getElem_append_left hi']
      refine Rep.stable ht fun b hb => ?_
      rw [hw b (Nat.lt_of_lt_of_le (h3 i hi' b hb).2.1 hsz0) (hds i hi' b hb)]
      exact hx.block (h3 i hi' b hb).2.1
  · rw [List.nodup_append]
    refine ⟨blk_nodup _, ?_, fun a ha c hc e => ?_⟩
    · rw [List.nodup_append]
      refine ⟨n2, nd, fun a ha c hc e => ?_⟩
      subst e
      obtain ⟨j, hj, ha⟩ := List.mem_flatMap.1 ha
      have := (f a hc).1
      have := (h3 j (List.mem_range.1 hj) a ha).2.1
      omega
    · subst e
      have key : a ∉ v.blk ∧ a < w.heap.size := by
        rcases List.mem_append.1 hc with hc | hc
        · obtain ⟨j, hj, hc⟩ := List.mem_flatMap.1 hc
          have := h3 j (List.mem_range.1 hj) a hc
          exact ⟨hds j (List.mem_range.1 hj) a hc, by omega⟩
        · exact ⟨hbs a hc, Rep.lt t a hc⟩
      rcases hv a ha with h | h
      · exact key.1 h
      · omega
  · by_cases e : i = xs.length
    · simp only [e, if_true] at hb
      have hf := f b hb
      have hl := Rep.lt t b hb
      exact ⟨by omega, by omega, fun o => by rw [World.frozen?_of_block (w := w) (hw b hl (hbs b hb))]; exact hf.2 o⟩
    · simp only [if_neg e] at hb
      have hi' : i < xs.length := by simp at hi; omega
      obtain ⟨k1, k2, k3⟩ := h3 i hi' b hb
      exact ⟨k1, by omega, fun o => by rw [World.frozen?_of_block (w := w0) ((hw b (by omega) (hds i hi' b hb)).trans (hx.block k2))]; exact k3 o⟩
  · rcases List.mem_append.1 hb with hb | hb
    · rcases hv b hb with h | h
      · exact .inl (List.mem_append_left _ h)
      · exact .inr (by omega)
    · rcases List.mem_append.1 hb with hb | hb
      · exact .inl (List.mem_append_right _ hb)
      · exact .inr (f b hb).1
theorem OwnL.owns {lo : Nat} {w : World} {E : TypeId} {xs : List α} {v : Value} {vs : List Value} {bs : List Nat} (h : OwnL lo w E xs v vs bs) (hsz : Rep.size α = 1) : Owns lo w xs [v] := by
  obtain ⟨⟨h1, h2⟩, ds, h3, rfl, h4, h5⟩ := h
  rcases h2 with ⟨rfl, h0⟩ | ⟨b, off, cap, cur, rfl, k3, k4, k5, k6, k7, k8⟩
  · have : xs = [] := List.eq_nil_of_length_eq_zero h0
    subst this
    exact ⟨[], ⟨_, _, rfl, Nat.le_refl _, Nat.zero_le _, .inl ⟨rfl, rfl⟩⟩, List.nodup_nil, fun b hb => by cases hb⟩
  · by_cases hc : cap = 0
    · subst hc
      exact ⟨[], ⟨_, _, rfl, k5, k6, .inl ⟨rfl, rfl⟩⟩, List.nodup_nil, fun b hb => by cases hb⟩
    · refine ⟨b :: (List.range xs.length).flatMap ds, ⟨_, _, rfl, k5, k6, .inr ⟨b, off, cur, E, (0, 0), fun i => [vs.getD i undef], ds, rfl, by omega, k4, by rw [hsz]; exact k7, rfl, fun i hi => ?_⟩⟩, by simpa [Value.blk] using h4, fun c hc' => ?_⟩
      · obtain ⟨u, hu, ht⟩ := h3 i hi
        have hg : vs.getD i undef = u := by simp [List.getD, hu]
        simp only [hg]
        refine ⟨ht, fun j hj => ?_⟩
        rw [hsz] at hj ⊢
        obtain rfl : j = 0 := by omega
        rw [Nat.mul_one, Nat.add_zero, k8 i (by omega), hu]; rfl
      · rcases List.mem_cons.1 hc' with rfl | hc'
        · exact ⟨k3, fun o => frozen_row k4 o⟩
        · obtain ⟨i, hi, hc'⟩ := List.mem_flatMap.1 hc'
          have := h5 i (List.mem_range.1 hi) c hc'
          exact ⟨this.1, this.2.2⟩
end
end Go
