/- A slice that is owned, with one element taken out. No program in sight. -/
import Derived.Test.YtelkplponnfkpaaCut
import Derived.Test.YtelkplponnfkpaaSepM
namespace Go
open Go.RowKit
set_option linter.unusedVariables false
/-- The elements of the slice v but the k-th, whose cell holds u. -/
def gapA {α : Type} [Rep α] (xs : List α) (v : Value) (k : Nat) (u : Value) : Asn where
  P w F := ∃ (b off cap : Nat) (cur : Array Value) (E : TypeId) (fr : Nat × Nat) (ts : Nat → List Value) (ds : Nat → List Nat), v = .slice (some ⟨b, off, none⟩) xs.length cap ∧ 0 < cap ∧ xs.length ≤ cap ∧ cap ≤ maxLen ∧ k < xs.length ∧ Rep.size α = 1 ∧ w.heap[b]? = some (.cells cur E fr) ∧ off + cap ≤ cur.size ∧
    (∀ o, w.frozen? ⟨b, o, none⟩ = false) ∧ cur[off + k]? = some u ∧ ds k = [] ∧
    (∀ i (h : i < xs.length), i ≠ k → Rep.tree w (xs[i]'h) (ts i) (ds i) ∧ cur[off + i]? = (ts i)[0]?) ∧
    (b :: (List.range xs.length).flatMap ds).Nodup ∧ (∀ c ∈ (List.range xs.length).flatMap ds, ∀ o, w.frozen? ⟨c, o, none⟩ = false) ∧ ∀ c, F c ↔ c ∈ b :: (List.range xs.length).flatMap ds
  stable := by
    rintro w w' F ⟨b, off, cap, cur, E, fr, ts, ds, h1, h2, h3, h4, h5, h6, h7, h8, h9, h10, h11, h12, h13, h14, h15⟩ hs
    have hb := hs b ((h15 b).2 (List.mem_cons_self ..))
    have hin : ∀ i, i < xs.length → ∀ c ∈ ds i, c ∈ (List.range xs.length).flatMap ds := fun i hi c hc => List.mem_flatMap.2 ⟨i, List.mem_range.2 hi, hc⟩
    refine ⟨b, off, cap, cur, E, fr, ts, ds, h1, h2, h3, h4, h5, h6, hb.trans h7, h8, fun o => by rw [World.frozen?_of_block (w := w) hb]; exact h9 o, h10, h11, fun i hi hk => ⟨Rep.stable (h12 i hi hk).1 fun c hc => hs c ((h15 c).2 (List.mem_cons_of_mem _ (hin i hi c hc))), (h12 i hi hk).2⟩, h13, fun c hc o => ?_, h15⟩
    rw [World.frozen?_of_block (w := w) (hs c ((h15 c).2 (List.mem_cons_of_mem _ hc)))]; exact h14 c hc o
  lt := by
    rintro w F ⟨b, off, cap, cur, E, fr, ts, ds, h1, h2, h3, h4, h5, h6, h7, h8, h9, h10, h11, h12, h13, h14, h15⟩ c hc
    rcases List.mem_cons.1 ((h15 c).1 hc) with rfl | hc
    · exact row_lt h7
    · obtain ⟨i, hi, hm⟩ := List.mem_flatMap.1 hc
      by_cases e : i = k
      · subst e; rw [h11] at hm; cases hm
      · exact Rep.lt (h12 i (List.mem_range.1 hi) e).1 c hm
theorem flatMap_upd {ds : Nat → List Nat} {k : Nat} {l : List Nat} : ∀ (n : Nat), n ≤ k → (List.range n).flatMap (fun i => if i = k then l else ds i) = (List.range n).flatMap ds
  | 0, _ => rfl
  | n + 1, h => by
    rw [List.range_succ, List.flatMap_append, List.flatMap_append, flatMap_upd n (by omega)]
    simp only [List.flatMap_cons, List.flatMap_nil, List.append_nil]
    rw [if_neg (by omega)]
theorem perm_upd {ds : Nat → List Nat} {k : Nat} {l : List Nat} (h0 : ds k = []) : ∀ (n : Nat), k < n → ((List.range n).flatMap (fun i => if i = k then l else ds i)).Perm (l ++ (List.range n).flatMap ds)
  | 0, h => absurd h (Nat.not_lt_zero _)
  | n + 1, h => by
    rw [List.range_succ, List.flatMap_append, List.flatMap_append]
    simp only [List.flatMap_cons, List.flatMap_nil, List.append_nil]
    by_cases e : n = k
    · subst e
      rw [if_pos rfl, h0, List.append_nil, flatMap_upd n (Nat.le_refl _)]
      exact List.perm_append_comm
    · rw [if_neg e, ← List.append_assoc]
      exact (perm_upd h0 n (by omega)).append_right _
section
variable {w0 w w' : World} {Is Js Ks : List Asn}
theorem St.gap {α : Type} [Rep α] {xs : List α} {v : Value} (h : St w0 w Is) (t : Take Is (ownA xs [v]) Js) {k : Nat} (hk : k < xs.length) (h1 : Rep.size α = 1) :
    ∃ u, St w0 w (gapA xs v k u :: ownA (xs[k]'hk) [u] :: Js) := by
  have ht := h.take t
  obtain ⟨x1, F, ⟨F1, F2, ⟨bs, ⟨a, cap, hv, k1, k2, k3⟩, p2, p3, p4⟩, q2, q3, q4⟩, q5⟩ := ht
  simp only [List.cons.injEq, and_true] at hv
  subst hv
  rcases k3 with ⟨h0, _⟩ | ⟨b, off, cur, E, fr, ts, ds, rfl, hp, hb, hs, hbs, he⟩
  · omega
  · rw [h1, Nat.mul_one] at hs
    have hel : ∀ i (h : i < xs.length), Rep.tree w (xs[i]'h) (ts i) (ds i) ∧ cur[off + i]? = (ts i)[0]? := by
      intro i hi
      have := he i hi
      refine ⟨this.1, ?_⟩
      have h2 := this.2 0 (by rw [h1]; omega)
      rw [h1, Nat.mul_one, Nat.add_zero] at h2
      exact h2
    obtain ⟨u, hu⟩ : ∃ u, ts k = [u] := List.length_eq_one_iff.1 (by rw [Rep.len (hel k hk).1, h1])
    let ds' : Nat → List Nat := fun i => if i = k then [] else ds i
    have e1 : ds = fun i => if i = k then ds k else ds' i := by
      funext i
      by_cases e : i = k
      · subst e; rw [if_pos rfl]
      · simp only [ds', if_neg e]
    have hperm : ((List.range xs.length).flatMap ds).Perm (ds k ++ (List.range xs.length).flatMap ds') := by
      conv => lhs; rw [e1]
      exact perm_upd (by simp [ds']) xs.length hk
    subst hbs
    have hnd : (b :: (ds k ++ (List.range xs.length).flatMap ds')).Nodup := (hperm.cons b).nodup_iff.1 p2
    rw [List.nodup_cons, List.nodup_append] at hnd
    obtain ⟨n1, n2, n3, n4⟩ := hnd
    have hmem : ∀ c, c ∈ b :: (List.range xs.length).flatMap ds ↔ (c = b ∨ c ∈ ds k ∨ c ∈ (List.range xs.length).flatMap ds') := fun c => by
      rw [(hperm.cons b).mem_iff, List.mem_cons, List.mem_append]
    refine ⟨u, x1, F, ⟨fun c => c ∈ b :: (List.range xs.length).flatMap ds', fun c => c ∈ ds k ∨ F2 c, ?_, ⟨fun c => c ∈ ds k, F2, ?_, q2, fun c hc hc2 => q3 c ((p4 c).2 ((hmem c).2 (.inr (.inl hc)))) hc2, fun _ => Iff.rfl⟩, fun c hc hc2 => ?_, fun c => ?_⟩, q5⟩
    · refine ⟨b, off, cap, cur, E, fr, ts, ds', rfl, hp, k1, k2, hk, h1, hb, hs, fun o => p3 b (List.mem_cons_self ..) o, ?_, by simp [ds'], fun i hi hne => ?_, ?_, fun c hc o => p3 c ((hmem c).2 (.inr (.inr hc))) o, fun _ => Iff.rfl⟩
      · rw [(hel k hk).2, hu]; rfl
      · refine ⟨?_, (hel i hi).2⟩
        simp only [ds', if_neg hne]; exact (hel i hi).1
      · rw [List.nodup_cons]; exact ⟨fun hm => n1 (List.mem_append_right _ hm), n3⟩
    · refine ⟨ds k, ?_, n2, fun c hc o => p3 c ((hmem c).2 (.inr (.inl hc))) o, fun _ => Iff.rfl⟩
      have := (hel k hk).1
      rwa [hu] at this
    · rcases hc2 with hc2 | hc2
      · rcases List.mem_cons.1 hc with rfl | hc
        · exact n1 (List.mem_append_left _ hc2)
        · exact n4 c hc2 c hc rfl
      · refine q3 c ((p4 c).2 ((hmem c).2 ?_)) hc2
        rcases List.mem_cons.1 hc with h | h
        · exact .inl h
        · exact .inr (.inr h)
    · rw [q4, p4, hmem]
      show _ ↔ (c ∈ b :: (List.range xs.length).flatMap ds') ∨ (c ∈ ds k ∨ F2 c)
      rw [List.mem_cons]
      constructor
      · rintro ((h | h | h) | h)
        · exact .inl (.inl h)
        · exact .inr (.inl h)
        · exact .inl (.inr h)
        · exact .inr (.inr h)
      · rintro ((h | h) | (h | h))
        · exact .inl (.inl h)
        · exact .inl (.inr (.inr h))
        · exact .inl (.inr (.inl h))
        · exact .inr h
theorem gapA.form {α : Type} [Rep α] {xs : List α} {v u : Value} {k : Nat} (h : St w0 w Is) (t : Take Is (gapA xs v k u) Js) : ∃ b off cap, v = .slice (some ⟨b, off, none⟩) xs.length cap ∧ w.cell? ⟨b, off + k, none⟩ = some u := by
  obtain ⟨F, b, off, cap, cur, E, fr, ts, ds, h1, h2, h3, h4, h5, h6, h7, h8, h9, h10, _⟩ := h.get t
  exact ⟨b, off, cap, h1, by rw [cell_row h7]; exact h10⟩
theorem St.fill {α : Type} [Rep α] {xs : List α} {v u : Value} {k : Nat} {y : α} (h : St w0 w Is) (t : Take Is (gapA xs v k u) Js) (t2 : Take Js (ownA y [u]) Ks) : St w0 w (ownA (xs.set k y) [v] :: Ks) := by
  refine (h.take2 t t2).fuse.same fun F hF => ?_
  obtain ⟨F1, F2, ⟨b, off, cap, cur, E, fr, ts, ds, h1, h2, h3, h4, h5, h6, h7, h8, h9, h10, h11, h12, h13, h14, h15⟩, ⟨bs, p1, p2, p3, p4⟩, hd, hF⟩ := hF
  subst h1
  have hperm : ((List.range xs.length).flatMap (fun i => if i = k then bs else ds i)).Perm (bs ++ (List.range xs.length).flatMap ds) := perm_upd h11 xs.length h5
  have hmem : ∀ c, c ∈ b :: (List.range xs.length).flatMap (fun i => if i = k then bs else ds i) ↔ (c = b ∨ c ∈ bs ∨ c ∈ (List.range xs.length).flatMap ds) := fun c => by
    rw [(hperm.cons b).mem_iff, List.mem_cons, List.mem_append]
  have hdis : ∀ c ∈ b :: (List.range xs.length).flatMap ds, c ∉ bs := fun c hc hc2 => hd c ((h15 c).2 hc) ((p4 c).2 hc2)
  refine ⟨fun c => c ∈ b :: (List.range xs.length).flatMap (fun i => if i = k then bs else ds i), ⟨_, ⟨some ⟨b, off, none⟩, cap, by rw [List.length_set], by rw [List.length_set]; exact h3, h4, .inr ⟨b, off, cur, E, fr, fun i => if i = k then [u] else ts i, fun i => if i = k then bs else ds i, rfl, h2, h7, by rw [h6, Nat.mul_one]; exact h8, by rw [List.length_set], fun i hi => ?_⟩⟩, ?_, fun c hc o => ?_, fun _ => Iff.rfl⟩, fun c hc => ?_⟩
  · rw [List.length_set] at hi
    by_cases e : i = k
    · subst e
      simp only [if_true, List.getElem_set_self]
      refine ⟨p1, fun j hj => ?_⟩
      rw [h6] at hj
      obtain rfl : j = 0 := by omega
      rw [h6, Nat.mul_one, Nat.add_zero, h10]; rfl
    · simp only [if_neg e]
      rw [List.getElem_set_ne (fun h => e h.symm)]
      refine ⟨(h12 i hi e).1, fun j hj => ?_⟩
      rw [h6] at hj
      obtain rfl : j = 0 := by omega
      rw [h6, Nat.mul_one, Nat.add_zero]; exact (h12 i hi e).2
  · rw [(hperm.cons b).nodup_iff, List.nodup_cons, List.nodup_append]
    rw [List.nodup_cons] at h13
    refine ⟨fun hm => ?_, p2, h13.2, fun a ha c hc e => hdis c (List.mem_cons_of_mem _ hc) (e ▸ ha)⟩
    rcases List.mem_append.1 hm with hm | hm
    · exact hdis b (List.mem_cons_self ..) hm
    · exact h13.1 hm
  · rcases (hmem c).1 hc with rfl | hc | hc
    · exact h9 o
    · exact p3 c hc o
    · exact h14 c hc o
  · rcases (hmem c).1 hc with rfl | hc | hc
    · exact (hF c).2 (.inl ((h15 c).2 (List.mem_cons_self ..)))
    · exact (hF c).2 (.inr ((p4 c).2 hc))
    · exact (hF c).2 (.inl ((h15 c).2 (List.mem_cons_of_mem _ hc)))
theorem St.nic {α : Type} [Rep α] {xs : List α} {u : Value} {k b off n cap : Nat} (h : St w0 w Is) (t : Take Is (gapA xs (.slice (some ⟨b, off, none⟩) n cap) k u) Js) (x : Value) :
    (∃ u, w.cell? ⟨b, off + k, none⟩ = some u) ∧ w.frozen? ⟨b, off + k, none⟩ = false ∧ St w0 (w.setCell ⟨b, off + k, none⟩ x) (gapA xs (.slice (some ⟨b, off, none⟩) n cap) k x :: Js) := by
  have h0 := h.get t
  obtain ⟨_, b', off', cap', cur, E, fr, ts, ds, hv, h2, h3, h4, h5, h6, h7, h8, h9, h10, _⟩ := h0
  simp only [Value.slice.injEq, Option.some.injEq, Addr.mk.injEq] at hv
  obtain ⟨⟨rfl, rfl, -⟩, rfl, rfl⟩ := hv
  refine ⟨⟨u, by rw [cell_row h7]; exact h10⟩, h9 _, ?_⟩
  clear h2 h3 h4 h5 h6 h7 h8 h9 h10
  refine (h.take t).turn rfl rfl rfl (by simp) fun F hF => ?_
  obtain ⟨b', off', cap', cur, E, fr, ts, ds, hv, h2, h3, h4, h5, h6, h7, h8, h9, h10, h11, h12, h13, h14, h15⟩ := hF
  simp only [Value.slice.injEq, Option.some.injEq, Addr.mk.injEq] at hv
  obtain ⟨⟨rfl, rfl, -⟩, -, rfl⟩ := hv
  have hother : ∀ c, c ≠ b → (w.setCell ⟨b, off + k, none⟩ x).heap[c]? = w.heap[c]? := fun c hc => row_setCell_other (p := ⟨b, off + k, none⟩) hc x
  have hnb : ∀ c ∈ (List.range xs.length).flatMap ds, c ≠ b := fun c hc e => by rw [List.nodup_cons] at h13; exact h13.1 (e ▸ hc)
  have hcur : off + k < cur.size := by
    rcases Nat.lt_or_ge (off + k) cur.size with h | h
    · exact h
    · omega
  refine ⟨fun c _ hc => hother c fun e => hc ((h15 c).2 (e ▸ List.mem_cons_self ..)), F, ⟨b, off, cap, _, E, fr, ts, ds, rfl, h2, h3, h4, h5, h6, row_setCell h7 (off + k) x, by simpa using h8, fun o => ?_, ?_, h11, fun i hi hne => ⟨Rep.stable (h12 i hi hne).1 fun c hc => hother c (hnb c (List.mem_flatMap.2 ⟨i, List.mem_range.2 hi, hc⟩)), ?_⟩, h13, fun c hc o => ?_, h15⟩, fun c hc => .inl hc⟩
  · have := h9 o
    unfold World.frozen? at this ⊢
    rw [row_setCell h7 (off + k) x]
    rw [h7] at this
    exact this
  · rw [Array.getElem?_setIfInBounds, if_pos rfl, if_pos hcur]
  · rw [Array.getElem?_setIfInBounds, if_neg (by omega)]; exact (h12 i hi hne).2
  · rw [World.frozen?_of_block (w := w) (hother c (hnb c hc))]; exact h14 c hc o
/-- An element of a slice of flat data of one cell is replaced. -/
theorem St.setAt {α : Type} [Rep α] [Flat α] {xs : List α} {k b off n cap : Nat} (h : St w0 w Is) (t : Take Is (ownA xs [.slice (some ⟨b, off, none⟩) n cap]) Js) (hk : k < xs.length) (h1 : Rep.size α = 1) (y : α) (hy : Flat.ok y) {x : Value} (hx : Flat.cells y = [x]) :
    (∃ u, w.cell? ⟨b, off + k, none⟩ = some u) ∧ w.frozen? ⟨b, off + k, none⟩ = false ∧ St w0 (w.setCell ⟨b, off + k, none⟩ x) (ownA (xs.set k y) [.slice (some ⟨b, off, none⟩) n cap] :: Js) := by
  obtain ⟨u, hg⟩ := h.gap t hk h1
  obtain ⟨a1, a2, a3⟩ := hg.nic .head x
  have a4 := a3.flat hy
  rw [hx] at a4
  exact ⟨a1, a2, (a4.fill (.tail .head) .head).arr (.cons .head (arr_drop _ _))⟩
end
section
variable {P : Program} {ops : Array Oper} {rest : List Oper} {o : Oper} {a : Act} {w w0 : World} {Q : Exit → Act → World → Prop} {Is Js Ks : List Asn} {K : Act → World → Prop}
theorem run_appO (w : World) (t tx ty e : TypeId) (i : TypeInfo) (z : Value) (ht : P.underlying t = some (.slice e)) (hi : P.info? e = some i) (hz : i.zero = some z) (hzs : z.cells.size = i.size)
    {α : Type} [Rep α] [Flat α] (hsz : i.size = Rep.size α) {xs : List α} {y : α} {v : Value} {bs : List Nat} (tr : Rep.tree w xs [v] bs) (fz : ∀ b ∈ bs, ∀ o, w.frozen? ⟨b, o, none⟩ = false) (hok : Flat.ok y)
    (x : Value) (hx : Src P i.size tx x 1 (Flat.cells y) w) (h63 : xs.length + 1 ≤ maxLen) (hby : (xs.length + 1) * i.bytes ≤ 140737488355328) :
    ∃ v' w' bs', (Builtin.append_ #[t, tx] ty #[v, x]).run P w = .ok v' w' ∧ Rep.tree w' (xs ++ [y]) [v'] bs' ∧ bs'.Nodup ∧ (∀ b ∈ bs', ∀ o, w'.frozen? ⟨b, o, none⟩ = false) ∧ (∀ b ∈ bs', b ∈ bs ∨ w.heap.size ≤ b) ∧
      w'.os = w.os ∧ w'.tape = w.tape ∧ w'.output = w.output ∧ w.heap.size ≤ w'.heap.size ∧ ∀ k, k < w.heap.size → k ∉ bs → w'.heap[k]? = w.heap[k]? := by
  have hokx : ∀ x ∈ xs, Flat.ok x := by
    obtain ⟨_, _, _, _, _, _, h⟩ := Holds.flat ⟨bs, tr⟩
    exact h
  have hpos := Rep.pos (α := α)
  obtain ⟨A, cap, hv, k1, k2, k3⟩ := tr
  simp only [List.cons.injEq, and_true] at hv
  subst hv
  have hml : (xs.length + 1 : Nat) ≤ 9223372036854775807 := by unfold maxLen at h63; omega
  have hxl : (xs.flatMap Flat.cells).length = xs.length * i.size := by rw [hsz]; exact flat_len xs
  have grow : (Builtin.firstCells i.size xs.length (.slice A xs.length cap)).run P w.drew = .ok (xs.flatMap Flat.cells).toArray w.drew → cap < xs.length + 1 →
      ∃ v' w' bs', (Builtin.append_ #[t, tx] ty #[.slice A xs.length cap, x]).run P w = .ok v' w' ∧ Rep.tree w' (xs ++ [y]) [v'] bs' ∧ bs'.Nodup ∧ (∀ b ∈ bs', ∀ o, w'.frozen? ⟨b, o, none⟩ = false) ∧ (∀ b ∈ bs', b ∈ bs ∨ w.heap.size ≤ b) ∧
      w'.os = w.os ∧ w'.tape = w.tape ∧ w'.output = w.output ∧ w.heap.size ≤ w'.heap.size ∧ ∀ k, k < w.heap.size → k ∉ bs → w'.heap[k]? = w.heap[k]? := by
    intro hf hc
    have fin : ∀ (v' : Value) (w' : World), (Builtin.append_ #[t, tx] ty #[.slice A xs.length cap, x]).run P w = .ok v' w' → Slot w.heap.size w' e (Rep.size α) v' (xs.length + 1) ((xs ++ [y]).flatMap Flat.cells) → w'.os = w.os → w'.tape = w.tape → w'.output = w.output → w.heap.size ≤ w'.heap.size → (∀ k, k < w.heap.size → k ∉ bs → w'.heap[k]? = w.heap[k]?) →
        ∃ v' w' bs', (Builtin.append_ #[t, tx] ty #[.slice A xs.length cap, x]).run P w = .ok v' w' ∧ Rep.tree w' (xs ++ [y]) [v'] bs' ∧ bs'.Nodup ∧ (∀ b ∈ bs', ∀ o, w'.frozen? ⟨b, o, none⟩ = false) ∧ (∀ b ∈ bs', b ∈ bs ∨ w.heap.size ≤ b) ∧
        w'.os = w.os ∧ w'.tape = w.tape ∧ w'.output = w.output ∧ w.heap.size ≤ w'.heap.size ∧ ∀ k, k < w.heap.size → k ∉ bs → w'.heap[k]? = w.heap[k]? := by
      intro v' w' hr hsl r1 r2 r3 r4 r5
      obtain ⟨_, bs', t1, t2, t3⟩ := hsl.flat (α := α) (by
        intro u hu
        rcases List.mem_append.1 hu with h | h
        · exact hokx u h
        · rw [List.mem_singleton.1 h]; exact hok)
      exact ⟨v', w', bs', hr, t1, t2, fun b hb => (t3 b hb).2, fun b hb => .inr (t3 b hb).1, r1, r2, r3, r4, r5⟩
    refine fin _ _ (run_append_grow_src w t tx ty e i z ht hi hz A xs.length cap (xs.flatMap Flat.cells) hf x 1 (Flat.cells y) hx hc (by omega) (growslice_fits hc hby)) ⟨by rw [flat_len]; simp, .inr ⟨_, _, _, _, rfl, by simp, row_alloc _ _, grownCap_ge .., grownCap_le_maxLen _ _ _ _ h63, ?_, fun j hj => ?_⟩⟩ rfl rfl rfl (by simp) fun k hk _ => Below.heap_alloc w.drew _ _ hk
    · rw [Array.size_append, List.size_toArray, List.length_append, hxl, hx.newsLen, size_zeroCells, hzs, ← hsz, ← Nat.add_mul, ← Nat.add_mul, Nat.zero_add]
      have := grownCap_ge w (xs.length + 1) cap e
      rw [show xs.length + 1 + (grownCap w (xs.length + 1) cap e - (xs.length + 1)) = grownCap w (xs.length + 1) cap e from by omega]
      exact Nat.le_refl _
    · rw [Nat.zero_add, Array.getElem?_append_left (by rw [List.size_toArray, List.length_append, hxl, hx.newsLen, Nat.one_mul, hsz, ← Nat.succ_mul]; exact hj)]
      simp
  by_cases hroom : xs.length + 1 ≤ cap
  · rcases k3 with ⟨h0, _⟩ | ⟨b, off, cur, E, fr, ts, ds, rfl, hp, hb, hs, hbs, he⟩
    · omega
    · have hflat : ∀ i (h : i < xs.length), ts i = Flat.cells xs[i] ∧ ds i = [] := fun i hi => by
        obtain ⟨h1, h2, _⟩ := Flat.tree.1 (he i hi).1
        exact ⟨h1, h2⟩
      have hbs2 : bs = [b] := by
        rw [hbs]; congr 1
        refine List.eq_nil_iff_forall_not_mem.2 fun c hc => ?_
        obtain ⟨j, hj, hc⟩ := List.mem_flatMap.1 hc
        rw [(hflat j (List.mem_range.1 hj)).2] at hc; cases hc
      clear hbs
      subst hbs2
      have hmul : (xs.length + 1) * i.size ≤ cap * i.size := Nat.mul_le_mul_right _ hroom
      rw [Nat.add_mul] at hmul
      rw [← hsz] at hs
      have hyl : (Flat.cells y).length = i.size := by rw [hsz]; exact Flat.len y
      obtain ⟨r1, r2, r3, r4, r5⟩ := setCells_rest (Flat.cells y) w b (off + xs.length * i.size)
      refine ⟨_, _, [b], run_append_room_src w t tx ty e i ht hi b off xs.length cap x 1 (Flat.cells y) hx hroom (fun j hj => ?_) (fun j hj => fz b (by simp) _), ⟨_, _, by rw [List.length_append]; rfl, by simpa using hroom, k2, .inr ⟨b, off, _, E, fr, fun j => if h : j < xs.length then Flat.cells xs[j] else Flat.cells y, fun _ => [], rfl, hp, row_setCells _ _ _ _ _ _ _ hb, by rw [nicRow_size, ← hsz]; exact hs, by simp, fun j hj => ?_⟩⟩, by simp, fun c hc o => ?_, fun c hc => .inl hc, r1, r2, r3, Nat.le_of_eq r4.symm, fun k _ hk => r5 k fun e => hk (by simp [e])⟩
      · rw [cell_row hb, Array.getElem?_eq_getElem (by omega)]; rfl
      · by_cases hj' : j < xs.length
        · simp only [dif_pos hj', List.getElem_append_left hj']
          refine ⟨Flat.tree.2 ⟨rfl, rfl, hokx _ (List.getElem_mem hj')⟩, fun q hq => ?_⟩
          have hh := (he j hj').2 q hq
          rw [(hflat j hj').1] at hh
          rw [← hh, nicRow_lo]
          have := Nat.mul_le_mul_right (Rep.size α) (show j + 1 ≤ xs.length from hj')
          rw [Nat.succ_mul] at this
          rw [hsz]; omega
        · have hj2 : j = xs.length := by simp at hj; omega
          subst hj2
          simp only [dif_neg hj', List.getElem_append_right (Nat.le_refl _), Nat.sub_self, List.getElem_cons_zero]
          refine ⟨Flat.tree.2 ⟨rfl, rfl, hok⟩, fun q hq => ?_⟩
          rw [← hsz, nicRow_in _ _ _ _ (by rw [hyl, hsz]; exact hq) (by rw [hyl]; omega)]
      · simp at hc
        subst hc
        have h9 := fz c (by simp) o
        unfold World.frozen? at h9 ⊢
        rw [row_setCells _ _ _ _ _ _ _ hb]
        rw [hb] at h9
        exact h9
  · refine grow ?_ (by omega)
    rcases k3 with ⟨h0, _⟩ | ⟨b, off, cur, E, fr, ts, ds, rfl, hp, hb, hs, hbs, he⟩
    · have hx0 : xs = [] := List.eq_nil_of_length_eq_zero (by omega)
      subst hx0
      cases A with
      | none => exact run_firstCells_none w.drew i.size 0 cap 0
      | some p => exact run_firstCells_some w.drew i.size 0 p 0 cap [] (by simp) fun j u hj => by simp at hj
    · refine run_firstCells_some w.drew i.size xs.length _ xs.length cap _ hxl fun j u hj => ?_
      have hjl : j < xs.length * i.size := by
        rcases Nat.lt_or_ge j (xs.length * i.size) with h | h
        · exact h
        · rw [List.getElem?_eq_none (by omega)] at hj; cases hj
      rw [addr_add, World.cell?_drew, cell_row hb]
      have hdm := Nat.div_add_mod j i.size
      have hi0 : 0 < i.size := by omega
      have hq : j / i.size < xs.length := (Nat.div_lt_iff_lt_mul hi0).2 hjl
      have hr := Nat.mod_lt j hi0
      have h1 := (he (j / i.size) hq).2 (j % i.size) (by omega)
      obtain ⟨e1, _, _⟩ := Flat.tree.1 (he (j / i.size) hq).1
      have h2 := flat_get xs (j / i.size) hq (j % i.size) (by omega)
      rw [e1, ← h2, ← hsz] at h1
      have e2 : j / i.size * i.size + j % i.size = j := by rw [Nat.mul_comm]; exact hdm
      rw [Nat.add_assoc, e2] at h1
      rw [h1]; exact hj
/-- An append of one flat element to an owned slice. -/
theorem wp_appO_st {α : Type} [Rep α] [Flat α] (s y : Operand) (t tx : TypeId) (ho : o.op = .call { callee := .builtin .append, args := #[s, y], argTypes := #[t, tx] }) (e : TypeId) {z : Value} {size bytes : Nat} (ht : P.underlying t = some (.slice e)) (hi : infoT P e z size bytes) (hsz : size = Rep.size α)
    {v : Value} {xs : List α} (hsv : a.eval s = v) (hs : St w0 w Is) (tk : Take Is (ownA xs [v]) Js) {x : Value} {el : α} {news : List Value} (hy : a.eval y = x) (hx : Src P size tx x 1 news w) (hn : news = Flat.cells el) (hok : Flat.ok el)
    (h63 : xs.length + 1 ≤ maxLen) (hby : (xs.length + 1) * bytes ≤ 140737488355328)
    (h : ∀ A c w', w.heap.size ≤ w'.heap.size → St w0 w' (ownA (xs ++ [el]) [.slice A (xs.length + 1) c] :: Js) → K (a.put o.dst (.slice A (xs.length + 1) c)) w') : o.wp P a w K Q := by
  subst hn
  obtain ⟨i, hii, hzz⟩ := Option.map_eq_some_iff.1 hi.1
  simp only [Prod.mk.injEq] at hzz
  obtain ⟨hz, rfl, rfl⟩ := hzz
  obtain ⟨F, bs, tr, nd, fz, hF⟩ := hs.get tk
  obtain ⟨v', w', bs', hr, t1, t2, t3, t4, r1, r2, r3, r4, r5⟩ := run_appO w t tx o.type e i z ht hii hz hi.2 hsz tr fz hok x hx h63 hby
  have hs' : St w0 w' (ownA (xs ++ [el]) [v'] :: Js) := by
    refine (hs.take tk).turn r1 r2 r3 r4 fun G hG => ?_
    obtain ⟨bs2, tr2, _, _, hG⟩ := hG
    have : bs2 = bs := by
      obtain ⟨_, _, hv, _, _, k⟩ := tr
      obtain ⟨_, _, hv2, _, _, k2⟩ := tr2
      simp only [List.cons.injEq, and_true] at hv hv2
      rw [hv] at hv2
      simp only [Value.slice.injEq] at hv2
      obtain ⟨rfl, _, rfl⟩ := hv2
      rcases k with ⟨c0, rfl⟩ | ⟨b, off, cur, E, fr, ts, ds, rfl, hp, hb, _, rfl, he⟩
      · rcases k2 with ⟨_, rfl⟩ | ⟨_, _, _, _, _, _, _, _, hp2, _⟩
        · rfl
        · omega
      · rcases k2 with ⟨c0, _⟩ | ⟨b', off', cur', E', fr', ts', ds', e2, hp2, hb2, _, rfl, he2⟩
        · omega
        · simp only [Option.some.injEq, Addr.mk.injEq] at e2
          obtain ⟨rfl, rfl, _⟩ := e2
          congr 1
          have z : ∀ (f : Nat → List Nat), (∀ i, i < xs.length → f i = []) → (List.range xs.length).flatMap f = [] := fun f hf => List.eq_nil_iff_forall_not_mem.2 fun c hc => by
            obtain ⟨j, hj, hc⟩ := List.mem_flatMap.1 hc
            rw [hf j (List.mem_range.1 hj)] at hc; cases hc
          rw [z ds fun i hi => (Flat.tree.1 (he i hi).1).2.1, z ds' fun i hi => (Flat.tree.1 (he2 i hi).1).2.1]
    subst this
    exact ⟨fun b hb hn => r5 b hb fun hm => hn ((hG b).2 hm), fun b => b ∈ bs', ⟨bs', t1, t2, t3, fun _ => Iff.rfl⟩, fun b hb => (t4 b hb).imp (hG b).2 id⟩
  obtain ⟨A, c, rfl⟩ := ownA.form hs' .head
  rw [List.length_append, List.length_singleton] at hs' hr
  unfold Oper.wp execOp
  simp only [ho, resolve, invoke, builtin, Sem.run_bind, Sem.run_pure, Result.andThen_ok, List.map_toArray, List.map_cons, List.map_nil, hsv, hy, hr]
  exact h A c _ r4 hs'
theorem wpList_appO_st {α : Type} [Rep α] [Flat α] (hw : Region.wanted o (yielded ops a.tmps) = true) (s y : Operand) (t tx : TypeId) (ho : o.op = .call { callee := .builtin .append, args := #[s, y], argTypes := #[t, tx] }) (e : TypeId) {z : Value} {size bytes : Nat} (ht : P.underlying t = some (.slice e)) (hi : infoT P e z size bytes) (hsz : size = Rep.size α)
    {v : Value} {xs : List α} (hsv : a.eval s = v) (hs : St w0 w Is) (tk : Take Is (ownA xs [v]) Js) {x : Value} {el : α} {news : List Value} (hy : a.eval y = x) (hx : Src P size tx x 1 news w) (hn : news = Flat.cells el) (hok : Flat.ok el)
    (h63 : xs.length + 1 ≤ maxLen) (hby : (xs.length + 1) * bytes ≤ 140737488355328)
    (h : ∀ A c w', w.heap.size ≤ w'.heap.size → St w0 w' (ownA (xs ++ [el]) [.slice A (xs.length + 1) c] :: Js) → wpList P ops Q rest (a.put o.dst (.slice A (xs.length + 1) c)) w') : wpList P ops Q (o :: rest) a w :=
  wpList_wanted hw fun _ hK => wp_appO_st s y t tx ho e ht hi hsz hsv hs tk hy hx hn hok h63 hby fun A c w' h1 h2 => hK _ _ (h A c w' h1 h2)
theorem St.cellG {α : Type} [Rep α] {xs : List α} {k b off n cap : Nat} {u : Value} (t : Take Is (gapA xs (.slice (some ⟨b, off, none⟩) n cap) k u) Js) : ∀ w, St w0 w Is → w.cell? ⟨b, off + k, none⟩ = some u := by
  intro w h
  obtain ⟨b', off', cap', hv, hc⟩ := gapA.form h t
  simp only [Value.slice.injEq, Option.some.injEq, Addr.mk.injEq] at hv
  obtain ⟨⟨rfl, rfl, -⟩, -, -⟩ := hv
  exact hc
theorem St.cellF {α : Type} [Rep α] [Flat α] {xs : List α} {k b off n cap : Nat} {y : α} {u : Value} (t : Take Is (ownA xs [.slice (some ⟨b, off, none⟩) n cap]) Js) (hk : xs[k]? = some y) (hy : Flat.cells y = [u]) : ∀ w, St w0 w Is → w.cell? ⟨b, off + k, none⟩ = some u := by
  intro w h
  obtain ⟨hlt, rfl⟩ := List.getElem?_eq_some_iff.1 hk
  obtain ⟨a, cap', hv, _, _, hc, _⟩ := (h.holds t).flat
  simp only [List.cons.injEq, Value.slice.injEq, and_true] at hv
  obtain ⟨rfl, rfl, rfl⟩ := hv
  obtain ⟨b', off', hb, hc⟩ := hc k hlt
  simp only [Option.some.injEq, Addr.mk.injEq] at hb
  obtain ⟨rfl, rfl, -⟩ := hb
  have h1 : Rep.size α = 1 := by rw [← Flat.len (α := α) xs[k], hy]; rfl
  have := hc 0 (by omega)
  rw [h1, Nat.mul_one, Nat.add_zero, hy] at this
  exact this
theorem St.cellI {xs : List Int} {k b off n cap : Nat} {y : Int} (t : Take Is (ownA xs [.slice (some ⟨b, off, none⟩) n cap]) Js) (hk : xs[k]? = some y) : ∀ w, St w0 w Is → w.cell? ⟨b, off + k, none⟩ = some (.int .i64 y) := St.cellF t hk rfl
theorem St.cellI0 {xs : List Int} {b off n cap : Nat} {y : Int} (t : Take Is (ownA xs [.slice (some ⟨b, off, none⟩) n cap]) Js) (hk : xs[0]? = some y) : ∀ w, St w0 w Is → w.cell? ⟨b, off, none⟩ = some (.int .i64 y) := St.cellF (k := 0) t hk rfl
theorem ownA.addr {α : Type} [Rep α] {xs : List α} {v : Value} (h : St w0 w Is) (t : Take Is (ownA xs [v]) Js) (hp : 0 < xs.length) : ∃ b off cap, v = .slice (some ⟨b, off, none⟩) xs.length cap ∧ xs.length ≤ cap ∧ cap ≤ maxLen := by
  obtain ⟨_, bs, ⟨a, cap, hv, k1, k2, k3⟩, _⟩ := h.get t
  simp only [List.cons.injEq, and_true] at hv
  rcases k3 with ⟨h0, _⟩ | ⟨b, off, cur, E, fr, ts, ds, rfl, _⟩
  · omega
  · exact ⟨b, off, cap, hv, k1, k2⟩
theorem ownA.form2 {α : Type} [Rep α] {xs : List α} {v : Value} (h : St w0 w Is) (t : Take Is (ownA xs [v]) Js) : ∃ a cap, v = .slice a xs.length cap ∧ xs.length ≤ cap ∧ cap ≤ maxLen := by
  obtain ⟨_, bs, ⟨a, cap, hv, k1, k2, k3⟩, _⟩ := h.get t
  simp only [List.cons.injEq, and_true] at hv
  exact ⟨a, cap, hv, k1, k2⟩
theorem wp_loadC_st (T : TypeId) (x : Operand) (ho : o.op = .load T x) {b f : Nat} (hx : a.eval x = .pointer (some ⟨b, f, none⟩)) (hs : St w0 w Is) (hu : scalarT P T) {v : Value} (hc : ∀ w, St w0 w Is → w.cell? ⟨b, f, none⟩ = some v) (h : K (a.put o.dst v) w) : o.wp P a w K Q := by
  obtain ⟨d, hu, hd⟩ := hu
  have hcell := hc w hs
  have hagg : (isAgg T).run P w = .ok false w := by
    unfold isAgg
    rw [Sem.run_bind, run_underlying hu w]
    cases d <;> simp_all
  have hr : (Instr.loadAt T (.pointer (some ⟨b, f, none⟩))).run P w = .ok v w := by
    simp only [Instr.loadAt, Instr.sureAddr, Sem.run_bind, Sem.run_pure, Result.andThen_ok, loadVar, hagg, Bool.false_eq_true, if_false]
    simp [hcell]
  unfold Oper.wp execOp
  simp only [ho, hx, Sem.run_bind, hr, Result.andThen_ok, Sem.run_pure]
  exact h
theorem wpList_loadC_st (hw : Region.wanted o (yielded ops a.tmps) = true) (T : TypeId) (x : Operand) (ho : o.op = .load T x) {b f : Nat} (hx : a.eval x = .pointer (some ⟨b, f, none⟩)) (hs : St w0 w Is) (hu : scalarT P T) {v : Value} (hc : ∀ w, St w0 w Is → w.cell? ⟨b, f, none⟩ = some v) (h : wpList P ops Q rest (a.put o.dst v) w) : wpList P ops Q (o :: rest) a w :=
  wpList_wanted hw fun _ hK => wp_loadC_st T x ho hx hs hu hc (hK _ _ h)
theorem quiet_loadC_st (T : TypeId) (x : Operand) (ho : o.op = .load T x) {b f : Nat} (hx : a.eval x = .pointer (some ⟨b, f, none⟩)) (hu : scalarT P T) {v : Value} (hc : ∀ w, St w0 w Is → w.cell? ⟨b, f, none⟩ = some v) {next : Act → Prop} (h : next (a.put o.dst v)) : o.quiet P a (fun w => ∃ s : StW w0 Is, w = s.1) next := by
  refine ⟨v, fun w ⟨s, hw⟩ => ?_, h⟩
  have hs : St w0 w Is := hw ▸ s.2
  obtain ⟨d, hu, hd⟩ := hu
  have hcell := hc w hs
  have hagg : (isAgg T).run P w = .ok false w := by
    unfold isAgg
    rw [Sem.run_bind, run_underlying hu w]
    cases d <;> simp_all
  have hr : (Instr.loadAt T (.pointer (some ⟨b, f, none⟩))).run P w = .ok v w := by
    simp only [Instr.loadAt, Instr.sureAddr, Sem.run_bind, Sem.run_pure, Result.andThen_ok, loadVar, hagg, Bool.false_eq_true, if_false]
    simp [hcell]
  unfold Oper.quietAt execOp
  simp only [ho, hx, Sem.run_bind, hr, Result.andThen_ok, Sem.run_pure]
  exact ⟨rfl, rfl⟩
theorem wp_store1 (T : TypeId) (x y : Operand) (ho : o.op = .store T x y) {b f : Nat} (hx : a.eval x = .pointer (some ⟨b, f, none⟩)) {v : Value} (hy : a.eval y = v) (hi : (P.info? T).map (·.size) = some 1) (hv : v.cells.toList = [v]) (h1 : v.oneCell' = true)
    (hc : ∃ u, w.cell? ⟨b, f, none⟩ = some u) (hf : w.frozen? ⟨b, f, none⟩ = false) (h : K a (w.setCell ⟨b, f, none⟩ v)) (hd : o.dst = none) : o.wp P a w K Q := by
  have hth : w.there b f v.cells.size := fun j hj => by
    have : v.cells.size = 1 := by rw [← Array.length_toList, hv]; rfl
    obtain rfl : j = 0 := by omega
    obtain ⟨u, hu⟩ := hc
    exact ⟨by rw [Nat.add_zero, hu]; rfl, hf⟩
  have hsv : (storeVar T ⟨b, f, none⟩ v).run P w = .ok () (w.setCells b f v.cells.toList) := by
    have h0 := run_storeVar_mid (P := P) w b f T v.cells hth (by rw [hi, ← Array.length_toList, hv]; rfl) (by rw [← Array.all_toList, hv]; simp [h1])
    cases v <;> first | exact h0 | (simp only [storeVar, Value.cells] at h0 ⊢; exact h0)
  rw [hv] at hsv
  have hr : (Instr.storeAt T (.pointer (some ⟨b, f, none⟩)) v).run P w = .ok () (w.setCell ⟨b, f, none⟩ v) := by
    simp only [Instr.storeAt, Instr.sureAddr, Sem.run_bind, Sem.run_pure, Result.andThen_ok, hsv]
    rfl
  unfold Oper.wp execOp
  simp only [ho, hx, hy, Sem.run_bind, hr, Result.andThen_ok, Sem.run_pure]
  show K (a.put o.dst undef) _
  rw [hd]
  exact h
/-- A store into the cell of the element that is taken out. -/
theorem wp_storeG_st {α : Type} [Rep α] (T : TypeId) (x y : Operand) (ho : o.op = .store T x y) {k b off n cap : Nat} {xs : List α} {u : Value} (hx : a.eval x = .pointer (some ⟨b, off + k, none⟩)) {v : Value} (hy : a.eval y = v) (hs : St w0 w Is) (t : Take Is (gapA xs (.slice (some ⟨b, off, none⟩) n cap) k u) Js)
    (hi : (P.info? T).map (·.size) = some 1) (hv : v.cells.toList = [v]) (h1 : v.oneCell' = true) (h : ∀ w', w'.heap.size = w.heap.size → St w0 w' (gapA xs (.slice (some ⟨b, off, none⟩) n cap) k v :: Js) → K a w') (hd : o.dst = none) : o.wp P a w K Q :=
  let ⟨h2, h3, h4⟩ := hs.nic t v
  wp_store1 T x y ho hx hy hi hv h1 h2 h3 (h _ (by simp) h4) hd
theorem wpList_storeG_st {α : Type} [Rep α] (hw : Region.wanted o (yielded ops a.tmps) = true) (T : TypeId) (x y : Operand) (ho : o.op = .store T x y) {k b off n cap : Nat} {xs : List α} {u : Value} (hx : a.eval x = .pointer (some ⟨b, off + k, none⟩)) {v : Value} (hy : a.eval y = v) (hs : St w0 w Is) (t : Take Is (gapA xs (.slice (some ⟨b, off, none⟩) n cap) k u) Js)
    (hi : (P.info? T).map (·.size) = some 1) (hv : v.cells.toList = [v]) (h1 : v.oneCell' = true) (h : ∀ w', w'.heap.size = w.heap.size → St w0 w' (gapA xs (.slice (some ⟨b, off, none⟩) n cap) k v :: Js) → wpList P ops Q rest a w') (hd : o.dst = none) : wpList P ops Q (o :: rest) a w :=
  wpList_wanted hw fun _ hK => wp_storeG_st T x y ho hx hy hs t hi hv h1 (fun w' h1 h2 => hK _ _ (h w' h1 h2)) hd
/-- A store into an owned slice of numbers. -/
theorem wp_storeI_st (T : TypeId) (x y : Operand) (ho : o.op = .store T x y) {k b off n cap : Nat} {xs : List Int} (hx : a.eval x = .pointer (some ⟨b, off + k, none⟩)) {v : Int} (hy : a.eval y = .int .i64 v) (hs : St w0 w Is) (t : Take Is (ownA xs [.slice (some ⟨b, off, none⟩) n cap]) Js)
    (hi : (P.info? T).map (·.size) = some 1) (hk : k < xs.length) (hv : i64ok v) (h : ∀ w', w'.heap.size = w.heap.size → St w0 w' (ownA (xs.set k v) [.slice (some ⟨b, off, none⟩) n cap] :: Js) → K a w') (hd : o.dst = none) : o.wp P a w K Q :=
  let ⟨h2, h3, h4⟩ := hs.setAt t hk rfl v hv rfl
  wp_store1 T x y ho hx hy hi rfl rfl h2 h3 (h _ (by simp) h4) hd
theorem wpList_storeI_st (hw : Region.wanted o (yielded ops a.tmps) = true) (T : TypeId) (x y : Operand) (ho : o.op = .store T x y) {k b off n cap : Nat} {xs : List Int} (hx : a.eval x = .pointer (some ⟨b, off + k, none⟩)) {v : Int} (hy : a.eval y = .int .i64 v) (hs : St w0 w Is) (t : Take Is (ownA xs [.slice (some ⟨b, off, none⟩) n cap]) Js)
    (hi : (P.info? T).map (·.size) = some 1) (hk : k < xs.length) (hv : i64ok v) (h : ∀ w', w'.heap.size = w.heap.size → St w0 w' (ownA (xs.set k v) [.slice (some ⟨b, off, none⟩) n cap] :: Js) → wpList P ops Q rest a w') (hd : o.dst = none) : wpList P ops Q (o :: rest) a w :=
  wpList_wanted hw fun _ hK => wp_storeI_st T x y ho hx hy hs t hi hk hv (fun w' h1 h2 => hK _ _ (h w' h1 h2)) hd
end
/-- An owned list cut from the front. -/
theorem St.cutOwn {α : Type} [Rep α] [Flat α] {w0 w : World} {Is Js : List Asn} {xs : List α} {A : Option Addr} {n cap : Nat} (h : St w0 w Is) (t : Take Is (ownA xs [.slice A n cap]) Js) {l sz : Nat} (h2 : l ≤ n) (hsz : sz = Rep.size α) : St w0 w (ownA (xs.drop l) [.slice (cutA A l cap sz) (n - l) (cap - l)] :: Js) := by
  refine (h.take t).same fun F hF => ?_
  obtain ⟨bs, tr, nd, fz, hb⟩ := hF
  have hn : n = xs.length := by
    obtain ⟨a, cap', hv, _⟩ := tr
    simp only [List.cons.injEq, Value.slice.injEq, and_true] at hv
    exact hv.2.1
  subst hn
  obtain ⟨bs', tr'⟩ := Holds.cut (hh := xs.length) ⟨bs, tr⟩ h2 (Nat.le_refl _) hsz
  rw [List.take_length] at tr'
  refine ⟨fun b => b ∈ bs', ⟨bs', tr', ?_, fun b hb' => ?_, fun _ => Iff.rfl⟩, fun b hb' => ?_⟩
  all_goals
    obtain ⟨a1, c1, v1, _, _, k1⟩ := tr
    obtain ⟨a2, c2, v2, _, _, k2⟩ := tr'
    simp only [List.cons.injEq, Value.slice.injEq, and_true] at v1 v2
    obtain ⟨rfl, _, rfl⟩ := v1
    obtain ⟨rfl, _, rfl⟩ := v2
    rcases k2 with ⟨_, rfl⟩ | ⟨b2, off2, cur2, E2, fr2, ts2, ds2, ha2, hp2, hb2, _, rfl, he2⟩
    · first | exact List.nodup_nil | cases hb'
    · rcases k1 with ⟨c0, _⟩ | ⟨b1, off1, cur1, E1, fr1, ts1, ds1, rfl, hp1, hb1, _, rfl, he1⟩
      · omega
      · have e : b2 = b1 := by
          unfold cutA at ha2
          split at ha2
          · simp only [Option.some.injEq, Addr.mk.injEq] at ha2; exact ha2.1.symm
          · simp only [Option.map_some, addr_add, Option.some.injEq, Addr.mk.injEq] at ha2; exact ha2.1.symm
        subst e
        have z : (List.range (xs.drop l).length).flatMap ds2 = [] := List.eq_nil_iff_forall_not_mem.2 fun c hc => by
          obtain ⟨j, hj, hc⟩ := List.mem_flatMap.1 hc
          rw [(Flat.tree.1 (he2 j (List.mem_range.1 hj)).1).2.1] at hc; cases hc
        first
          | (rw [z]; exact List.nodup_cons.2 ⟨by simp, List.nodup_nil⟩)
          | (rw [z] at hb'; have := List.mem_singleton.1 hb'; subst this; exact fz _ (List.mem_cons_self ..))
          | (rw [z] at hb'; have := List.mem_singleton.1 hb'; subst this; exact (hb _).2 (List.mem_cons_self ..))
end Go
