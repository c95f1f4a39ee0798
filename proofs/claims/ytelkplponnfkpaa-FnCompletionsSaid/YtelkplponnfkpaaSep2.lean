/- Parts of a world: appends, slices laid, regions that draw their order. No program in sight. -/
import Derived.Test.YtelkplponnfkpaaSep
import Derived.Test.YtelkplponnfkpaaPlan
namespace Go
open Go.RowKit
set_option linter.unusedVariables false

/-- Two parts as one. -/
def sepA (A B : Asn) : Asn where
  P w F := ∃ F1 F2, A.P w F1 ∧ B.P w F2 ∧ (∀ b, F1 b → ¬ F2 b) ∧ ∀ b, F b ↔ (F1 b ∨ F2 b)
  stable := by
    rintro w w' F ⟨F1, F2, h1, h2, h3, h4⟩ hs
    exact ⟨F1, F2, A.stable h1 fun b hb => hs b ((h4 b).2 (.inl hb)), B.stable h2 fun b hb => hs b ((h4 b).2 (.inr hb)), h3, h4⟩
  lt := by
    rintro w F ⟨F1, F2, h1, h2, h3, h4⟩ b hb
    rcases (h4 b).1 hb with h | h
    · exact A.lt h1 b h
    · exact B.lt h2 b h
section
variable {w0 w w' : World} {Is Js Ks : List Asn} {A B : Asn}
theorem St.fuse (h : St w0 w (A :: B :: Is)) : St w0 w (sepA A B :: Is) := by
  obtain ⟨h1, F, ⟨F1, F2, a1, ⟨G1, G2, b1, b2, b3, b4⟩, a3, a4⟩, h6⟩ := h
  refine ⟨h1, F, ⟨fun b => F1 b ∨ G1 b, G2, ⟨F1, G1, a1, b1, fun b hb hg => a3 b hb ((b4 b).2 (.inl hg)), fun _ => Iff.rfl⟩, b2, fun b hb hg => ?_, fun b => ?_⟩, h6⟩
  · rcases hb with hb | hb
    · exact a3 b hb ((b4 b).2 (.inr hg))
    · exact b3 b hb hg
  · rw [a4, b4]
    constructor
    · rintro (h | h | h)
      · exact .inl (.inl h)
      · exact .inl (.inr h)
      · exact .inr h
    · rintro ((h | h) | h)
      · exact .inl h
      · exact .inr (.inl h)
      · exact .inr (.inr h)
theorem St.take2 (h : St w0 w Is) (t : Take Is A Js) (u : Take Js B Ks) : St w0 w (A :: B :: Ks) := h.arr (.cons t (.cons u (by
  induction Ks with
  | nil => exact .nil
  | cons K l ih => exact .cons .head (by
      clear ih t u
      induction l with
      | nil => exact .nil
      | cons K l ih => exact .cons .head ih))))
end
theorem OwnL.app2 {α : Type} [Rep α] {w w' : World} {E : TypeId} {xs : List α} {v v' : Value} {vs : List Value} {bs0 bs : List Nat} {y : α} {u : Value} (h : OwnL 0 w E xs v vs bs0)
    (t : Rep.tree w y [u] bs) (nd : bs.Nodup) (f : ∀ b ∈ bs, ∀ o, w.frozen? ⟨b, o, none⟩ = false) (hd : ∀ b ∈ bs0, b ∉ bs)
    (hs : Slot 0 w' E 1 v' (xs.length + 1) (vs ++ [u])) (hsz : w.heap.size ≤ w'.heap.size) (hv : ∀ b ∈ v'.blk, b ∈ v.blk ∨ w.heap.size ≤ b)
    (hw : ∀ b, b < w.heap.size → b ∉ v.blk → w'.heap[b]? = w.heap[b]?) : ∃ bs', OwnL 0 w' E (xs ++ [y]) v' (vs ++ [u]) bs' ∧ ∀ b ∈ bs', (b ∈ bs0 ∨ b ∈ bs) ∨ w.heap.size ≤ b := by
  have hrng := h.rng
  obtain ⟨hs0, ds, h1, rfl, h2, h3⟩ := h
  have hlen : vs.length = xs.length := by simpa using hs0.1
  rw [List.nodup_append] at h2
  obtain ⟨n1, n2, n3⟩ := h2
  have hds : ∀ i, i < xs.length → ∀ b ∈ ds i, b ∉ v.blk := fun i hi b hb hm => n3 b hm b (List.mem_flatMap.2 ⟨i, List.mem_range.2 hi, hb⟩) rfl
  have hbs : ∀ b ∈ bs, b ∉ v.blk := fun b hb hm => hd b (List.mem_append_left _ hm) hb
  have hdb : ∀ i, i < xs.length → ∀ b ∈ ds i, b ∉ bs := fun i hi b hb hm => hd b (List.mem_append_right _ (List.mem_flatMap.2 ⟨i, List.mem_range.2 hi, hb⟩)) hm
  have e1 : (List.range (xs ++ [y]).length).flatMap (fun i => if i = xs.length then bs else ds i) = (List.range xs.length).flatMap ds ++ bs := by
    rw [List.length_append, List.length_singleton, List.range_succ, List.flatMap_append, flatMap_same' _ (g := ds) fun j hj => by rw [if_neg (by have := List.mem_range.1 hj; omega)]]
    simp
  refine ⟨v'.blk ++ ((List.range xs.length).flatMap ds ++ bs), ⟨by simpa using hs, fun i => if i = xs.length then bs else ds i, fun i hi => ?_, by rw [e1], ?_, fun i hi b hb => ?_⟩, fun b hb => ?_⟩
  · by_cases e : i = xs.length
    · subst e
      refine ⟨u, by rw [List.getElem?_append_right (by omega)]; simp [hlen], ?_⟩
      simp only [if_true, List.getElem_append_right (Nat.le_refl _), Nat.sub_self, List.getElem_cons_zero]
      exact Rep.stable t fun b hb => hw b (Rep.lt t b hb) (hbs b hb)
    · have hi' : i < xs.length := by simp at hi; omega
      obtain ⟨u', hu, ht⟩ := h1 i hi'
      refine ⟨u', by rw [List.getElem?_append_left (by omega)]; exact hu, ?_⟩
      simp only [if_neg e, List.getElem_append_left hi']
      exact Rep.stable ht fun b hb => hw b (h3 i hi' b hb).2.1 (hds i hi' b hb)
  · rw [List.nodup_append]
    refine ⟨blk_nodup _, ?_, fun a ha c hc e => ?_⟩
    · rw [List.nodup_append]
      refine ⟨n2, nd, fun a ha c hc e => ?_⟩
      subst e
      obtain ⟨j, hj, ha⟩ := List.mem_flatMap.1 ha
      exact hdb j (List.mem_range.1 hj) a ha hc
    · subst e
      have key : a ∉ v.blk ∧ a < w.heap.size := by
        rcases List.mem_append.1 hc with hc | hc
        · obtain ⟨j, hj, hc⟩ := List.mem_flatMap.1 hc
          exact ⟨hds j (List.mem_range.1 hj) a hc, (h3 j (List.mem_range.1 hj) a hc).2.1⟩
        · exact ⟨hbs a hc, Rep.lt t a hc⟩
      rcases hv a ha with h | h
      · exact key.1 h
      · omega
  · by_cases e : i = xs.length
    · simp only [e, if_true] at hb
      have hl := Rep.lt t b hb
      exact ⟨Nat.zero_le _, by omega, fun o => by rw [World.frozen?_of_block (w := w) (hw b hl (hbs b hb))]; exact f b hb o⟩
    · simp only [if_neg e] at hb
      have hi' : i < xs.length := by simp at hi; omega
      obtain ⟨k1, k2, k3⟩ := h3 i hi' b hb
      exact ⟨k1, by omega, fun o => by rw [World.frozen?_of_block (w := w) (hw b k2 (hds i hi' b hb))]; exact k3 o⟩
  · rcases List.mem_append.1 hb with hb | hb
    · rcases hv b hb with h | h
      · exact .inl (.inl (List.mem_append_left _ h))
      · exact .inr h
    · rcases List.mem_append.1 hb with hb | hb
      · exact .inl (.inl (List.mem_append_right _ hb))
      · exact .inl (.inr hb)
section
variable {w0 w : World} {Is Js Ks : List Asn}
theorem upd_plus_other {w : World} {bs : List Nat} {f : Nat → Obj} {g : Gr} {b : Nat} (hb : b < w.heap.size) (hn : b ∉ bs) : ((w.upd bs f).plus g).heap[b]? = w.heap[b]? := by
  rw [show ∀ (w : World) (g : Gr), (w.plus g).heap = w.heap ++ g.o from fun _ _ => rfl, Array.getElem?_append_left (by simpa using hb), World.block_upd _ _ _ hn]
theorem Slot.zero {lo : Nat} {w : World} {E : TypeId} {size : Nat} {v : Value} {n : Nat} {xs : List Value} (h : Slot lo w E size v n xs) : Slot 0 w E size v n xs :=
  ⟨h.1, h.2.imp id fun ⟨b, off, cap, cur, h1, _, h3⟩ => ⟨b, off, cap, cur, h1, Nat.zero_le _, h3⟩⟩
/-- What an append of one owned element leaves. -/
theorem St.appL {α : Type} [Rep α] {E : TypeId} {v v' : Value} {xs : List α} {vs : List Value} {y : α} {u : Value} {f : Nat → Obj} {g : Gr} (h : St w0 w Is) (t : Take Is (listA E xs v vs) Js) (t2 : Take Js (ownA y [u]) Ks)
    {lo : Nat} (hs : Slot lo ((w.upd v.blk f).plus g) E 1 v' (xs.length + 1) (vs ++ [u])) (hv : ∀ b ∈ v'.blk, b ∈ v.blk ∨ w.heap.size ≤ b) : St w0 ((w.upd v.blk f).plus g) (listA E (xs ++ [y]) v' (vs ++ [u]) :: Ks) := by
  refine (h.take2 t t2).fuse.turn rfl rfl rfl (by simp) fun F hF => ?_
  obtain ⟨F1, F2, ⟨bs0, o1, o2⟩, ⟨bs, q1, q2, q3, q4⟩, hd, hF⟩ := hF
  have hother : ∀ b, b < w.heap.size → b ∉ v.blk → ((w.upd v.blk f).plus g).heap[b]? = w.heap[b]? := fun b hb hn => upd_plus_other hb hn
  obtain ⟨bs', k1, k2⟩ := o1.app2 q1 q2 q3 (fun b hb hb2 => hd b ((o2 b).2 hb) ((q4 b).2 hb2)) hs.zero (by simp) hv hother
  refine ⟨fun b hb hn => hother b hb fun hm => hn ((hF b).2 (.inl ((o2 b).2 (o1.blk b hm)))), fun b => b ∈ bs', ⟨bs', k1, fun _ => Iff.rfl⟩, fun b hb => (k2 b hb).imp (fun h => (hF b).2 (h.imp (o2 b).2 (q4 b).2)) id⟩
theorem St.slotNil (h : St w0 w Is) (E : TypeId) (size : Nat) : St w0 w (slotA E size (.slice none 0 0) 0 [] :: Is) :=
  h.add (Ex.refl w) (A := slotA E size (.slice none 0 0) 0 []) (F := fun _ => False) ⟨Slot.nil _ _ _ _, fun b => by simp [Value.blk]⟩ fun _ h => h.elim
theorem St.listNil {α : Type} [Rep α] (h : St w0 w Is) (E : TypeId) : St w0 w (listA E ([] : List α) (.slice none 0 0) [] :: Is) :=
  h.add (Ex.refl w) (A := listA E ([] : List α) (.slice none 0 0) []) (F := fun _ => False) ⟨[], OwnL.of_nil (Slot.nil _ _ _ _), fun b => by simp⟩ fun _ h => h.elim
/-- A block just laid, as a slice of no elements. -/
theorem St.slotMade {b : Nat} {E : TypeId} (h : St w0 w Is) (size : Nat) (t : Take Is (rowA b [] E) Js) : St w0 w (slotA E size (.slice (some ⟨b, 0, none⟩) 0 0) 0 [] :: Js) :=
  (h.take t).same fun F hF => ⟨F, ⟨⟨by simp, .inr ⟨b, 0, 0, #[], rfl, Nat.zero_le _, hF.1, Nat.le_refl _, Nat.zero_le _, by simp, fun j hj => by simp at hj⟩⟩, fun c => by rw [hF.2]; simp [Value.blk]⟩, fun _ h => h⟩
theorem St.listMade {α : Type} [Rep α] {b : Nat} {E : TypeId} (h : St w0 w Is) (t : Take Is (rowA b [] E) Js) : St w0 w (listA E ([] : List α) (.slice (some ⟨b, 0, none⟩) 0 0) [] :: Js) :=
  (h.take t).same fun F hF => ⟨F, ⟨[b], OwnL.of_nil (v := .slice (some ⟨b, 0, none⟩) 0 0) ⟨by simp, .inr ⟨b, 0, 0, #[], rfl, Nat.zero_le _, hF.1, Nat.le_refl _, Nat.zero_le _, by simp, fun j hj => by simp at hj⟩⟩, fun c => by rw [hF.2]; simp⟩, fun _ h => h⟩
theorem St.flat {α : Type} [Rep α] [Flat α] (h : St w0 w Is) {x : α} (hok : Flat.ok x) : St w0 w (ownA x (Flat.cells x) :: Is) :=
  h.add (Ex.refl w) (A := ownA x (Flat.cells x)) (F := fun _ => False) ⟨[], Flat.tree.2 ⟨rfl, rfl, hok⟩, List.nodup_nil, (fun b hb => by cases hb), fun b => by simp⟩ fun _ h => h.elim
theorem St.empty {α : Type} [Rep α] (h : St w0 w Is) (a : Option Addr) : St w0 w (ownA ([] : List α) [.slice a 0 0] :: Is) :=
  h.add (Ex.refl w) (A := ownA ([] : List α) [.slice a 0 0]) (F := fun _ => False) ⟨[], ⟨a, 0, rfl, Nat.le_refl _, Nat.zero_le _, .inl ⟨rfl, rfl⟩⟩, List.nodup_nil, (fun b hb => by cases hb), fun b => by simp⟩ fun _ h => h.elim
theorem ownA.form {α : Type} [Rep α] {xs : List α} {v : Value} (h : St w0 w Is) (t : Take Is (ownA xs [v]) Js) : ∃ a c, v = .slice a xs.length c := by
  obtain ⟨_, bs, ⟨a, cap, hv, _⟩, _⟩ := h.get t
  simp only [List.cons.injEq, and_true] at hv
  exact ⟨a, cap, hv⟩
theorem St.ret {α : Type} [Rep α] {xs : List α} {v : Value} (h : St w0 w Is) (t : Take Is (ownA xs [v]) Js) : RetSl w0 xs (.returned v) w := by
  obtain ⟨a, c, rfl⟩ := ownA.form h t
  exact ⟨a, c, rfl, h.owns t, h.ex⟩
end
section
variable {P : Program} {ops : Array Oper} {rest : List Oper} {o : Oper} {a : Act} {w w0 : World} {Q : Exit → Act → World → Prop} {Is Js Ks : List Asn} {K : Act → World → Prop}
def infoT (P : Program) (e : TypeId) (z : Value) (size bytes : Nat) : Prop := (P.info? e).map (fun i => (i.zero, i.size, i.bytes)) = some (some z, size, bytes) ∧ z.cells.size = size
theorem wp_app_st (s y : Operand) (t tx : TypeId) (ho : o.op = .call { callee := .builtin .append, args := #[s, y], argTypes := #[t, tx] }) (e : TypeId) {z : Value} {size bytes : Nat} (ht : P.underlying t = some (.slice e)) (hi : infoT P e z size bytes)
    {v : Value} {n : Nat} {xs : List Value} (hsv : a.eval s = v) (hs : St w0 w Is) (tk : Take Is (slotA e size v n xs) Js) {x : Value} {m : Nat} {news : List Value} (hy : a.eval y = x) (hx : Src P size tx x m news w)
    (h63 : n + m ≤ maxLen) (hby : (n + m) * bytes ≤ 140737488355328)
    (h : ∀ A c w', w.heap.size ≤ w'.heap.size → St w0 w' (slotA e size (.slice A (n + m) c) (n + m) (xs ++ news) :: Js) → K (a.put o.dst (.slice A (n + m) c)) w') : o.wp P a w K Q :=
  wp_app s y t tx ho e z size bytes ht hi.1 hi.2 0 v n xs hsv (hs.slot tk) x m news hy hx h63 hby (Nat.zero_le _) fun v' f g h1 h2 => by
    have h3 := hs.app tk h1 h2
    obtain ⟨A, c, rfl, _⟩ := h1.form
    exact h A c _ (by simp) h3
theorem St.listSlot {α : Type} [Rep α] {E : TypeId} {xs : List α} {v : Value} {vs : List Value} (h : St w0 w Is) (t : Take Is (listA E xs v vs) Js) : Slot 0 w E 1 v xs.length vs := let ⟨_, _, h, _⟩ := h.get t; h.1
theorem wp_appL_st {α : Type} [Rep α] (s y : Operand) (t tx : TypeId) (ho : o.op = .call { callee := .builtin .append, args := #[s, y], argTypes := #[t, tx] }) (e : TypeId) {z : Value} {bytes : Nat} (ht : P.underlying t = some (.slice e)) (hi : infoT P e z 1 bytes)
    {v : Value} {xs : List α} {vs : List Value} {el : α} {u : Value} (hsv : a.eval s = v) (hs : St w0 w Is) (tk : Take Is (listA e xs v vs) Js) (tk2 : Take Js (ownA el [u]) Ks) {x : Value} (hy : a.eval y = x) (hx : Src P 1 tx x 1 [u] w)
    {n : Nat} (hn : xs.length = n) (h63 : n + 1 ≤ maxLen) (hby : (n + 1) * bytes ≤ 140737488355328)
    (h : ∀ A c w', w.heap.size ≤ w'.heap.size → St w0 w' (listA e (xs ++ [el]) (.slice A (n + 1) c) (vs ++ [u]) :: Ks) → K (a.put o.dst (.slice A (n + 1) c)) w') : o.wp P a w K Q := by
  subst hn
  exact wp_app s y t tx ho e z 1 bytes ht hi.1 hi.2 0 v xs.length vs hsv (hs.listSlot tk) x 1 [u] hy hx h63 hby (Nat.zero_le _) fun v' f g h1 h2 => by
    have h3 := hs.appL tk tk2 h1 h2
    obtain ⟨A, c, rfl, _⟩ := h1.form
    exact h A c _ (by simp) h3
theorem Src.row {tx e' T : TypeId} {b c : Nat} {cs : List Value} {size : Nat} (hs : St w0 w Is) (t : Take Is (rowA b cs T) Js) (hk : P.underlying tx = some (.slice e')) (hc : cs.all (·.oneCell') = true) (hn : cs.length = size) : Src P size tx (.slice (some ⟨b, 0, none⟩) 1 c) 1 cs w := by
  subst hn
  exact Src.lone (T := T) hk cs.toArray (by simpa using hc) b (hs.row t)
theorem foldl_fill (vs : List Value) : ∀ (k : Nat) (pre rest : List Value), rest.length = vs.length → k = pre.length → ((vs.zipIdx k).foldl (fun (cs : Array Value) (p : Value × Nat) => cs.setIfInBounds (0 + p.2) p.1) (pre ++ rest).toArray) = (pre ++ vs).toArray := by
  induction vs with
  | nil => intro k pre rest h _; simp at h; subst h; simp
  | cons v vs ih =>
    intro k pre rest h hk
    match rest, h with
    | r :: rest, h =>
      simp only [List.zipIdx_cons, List.foldl_cons, Nat.zero_add]
      have e : (pre ++ r :: rest).toArray.setIfInBounds k v = ((pre ++ [v]) ++ rest).toArray := by
        subst hk
        simp
      rw [e]
      have := ih (k + 1) (pre ++ [v]) rest (by simpa using h) (by simp [hk])
      simp only [Nat.zero_add] at this
      rw [this]; simp
theorem run_bslice1 (t e : TypeId) {z : Value} {size bytes : Nat} (ht : P.underlying t = some (.slice e)) (hi : infoT P e z size bytes) (hp : 0 < size) (hm : size ≤ 1000) {x : Value} (hx : x.cells.size = size) :
    (Instr.buildSlice t 1 #[(0, x)]).run P w = .ok (.slice (some ⟨w.heap.size, 0, none⟩) 1 1) (w.alloc (.cells x.cells e)) := by
  obtain ⟨h1, h2⟩ := hi
  obtain ⟨i, hi, hzz⟩ := Option.map_eq_some_iff.1 h1
  simp only [Prod.mk.injEq] at hzz
  obtain ⟨hz, rfl, rfl⟩ := hzz
  refine run_buildSlice w t e 1 _ x.cells i z ht hi hz (by omega) (by omega) ?_
  have hsz : ((Array.range (1 * i.size)).map (z.cells[· % z.cells.size]!)).size = i.size := by simp
  simp only [Instr.fill]
  rw [if_neg (by rw [hsz]; simp [hx])]
  have := foldl_fill x.cells.toList 0 [] ((Array.range (1 * i.size)).map (z.cells[· % z.cells.size]!)).toList (by simp [hx]) rfl
  simp only [List.nil_append, Array.toArray_toList] at this
  rw [← Array.foldl_toList, Array.toList_zipIdx]
  simp only [Nat.zero_mul]
  exact congrArg some this
theorem run_bslice0 (t e : TypeId) (hi : (P.info? e).isSome = true) (ht : P.underlying t = some (.slice e)) :
    (Instr.buildSlice t 0 #[]).run P w = .ok (.slice (some ⟨w.heap.size, 0, none⟩) 0 0) (w.alloc (.cells #[] e)) := by
  obtain ⟨i, hi⟩ := Option.isSome_iff_exists.1 hi
  simp [Instr.buildSlice, run_underlying ht, sizeOf, typeInfo, hi, Instr.fill, newRow]
  rw [show ∀ f : Nat → Value, Array.map f (Array.range 0) = #[] from fun f => Array.eq_empty_of_size_eq_zero (by simp)]
theorem infoT.some {e : TypeId} {z : Value} {size bytes : Nat} (h : infoT P e z size bytes) : (P.info? e).isSome = true := by
  obtain ⟨i, hi, _⟩ := Option.map_eq_some_iff.1 h.1
  rw [hi]; rfl
theorem wp_bslice0_st (t : TypeId) (ho : o.op = .buildSlice t 0 #[]) (e : TypeId) (ht : P.underlying t = some (.slice e)) {z : Value} {size bytes : Nat} (hi : infoT P e z size bytes) (hs : St w0 w Is)
    (h : ∀ w' b, w.heap.size = b → St w0 w' (rowA b [] e :: Is) → K (a.put o.dst (.slice (some ⟨b, 0, none⟩) 0 0)) w') : o.wp P a w K Q := by
  have hr := run_bslice0 (w := w) t e hi.some ht
  unfold Oper.wp execOp
  simp only [ho, List.map_toArray, List.map_nil, Sem.run_bind, hr, Result.andThen_ok, Sem.run_pure]
  exact h _ _ rfl (hs.alloc #[] e)
theorem wp_bslice1_st (t : TypeId) (y : Operand) (ho : o.op = .buildSlice t 1 #[(0, y)]) (e : TypeId) (ht : P.underlying t = some (.slice e)) {z : Value} {size bytes : Nat} (hi : infoT P e z size bytes) (hp : 0 < size) (hm : size ≤ 1000)
    {x : Value} (hy : a.eval y = x) {vs : List Value} (hv : x.cells.toList = vs) (hx : vs.length = size) (hs : St w0 w Is)
    (h : ∀ w' b, w.heap.size = b → St w0 w' (rowA b vs e :: Is) → K (a.put o.dst (.slice (some ⟨b, 0, none⟩) 1 1)) w') : o.wp P a w K Q := by
  subst hv
  have hr := run_bslice1 (w := w) t e ht hi hp hm (x := x) (by simpa using hx)
  unfold Oper.wp execOp
  simp only [ho, List.map_toArray, List.map_cons, List.map_nil, hy, Sem.run_bind, hr, Result.andThen_ok, Sem.run_pure]
  exact h _ _ rfl (hs.alloc x.cells e)
theorem wpList_app_st (hw : Region.wanted o (yielded ops a.tmps) = true) (s y : Operand) (t tx : TypeId) (ho : o.op = .call { callee := .builtin .append, args := #[s, y], argTypes := #[t, tx] }) (e : TypeId) {z : Value} {size bytes : Nat} (ht : P.underlying t = some (.slice e)) (hi : infoT P e z size bytes)
    {v : Value} {n : Nat} {xs : List Value} (hsv : a.eval s = v) (hs : St w0 w Is) (tk : Take Is (slotA e size v n xs) Js) {x : Value} {m : Nat} {news : List Value} (hy : a.eval y = x) (hx : Src P size tx x m news w)
    (h63 : n + m ≤ maxLen) (hby : (n + m) * bytes ≤ 140737488355328)
    (h : ∀ A c w', w.heap.size ≤ w'.heap.size → St w0 w' (slotA e size (.slice A (n + m) c) (n + m) (xs ++ news) :: Js) → wpList P ops Q rest (a.put o.dst (.slice A (n + m) c)) w') : wpList P ops Q (o :: rest) a w :=
  wpList_wanted hw fun _ hK => wp_app_st s y t tx ho e ht hi hsv hs tk hy hx h63 hby fun A c w' h1 h2 => hK _ _ (h A c w' h1 h2)
theorem wpList_appL_st {α : Type} [Rep α] (hw : Region.wanted o (yielded ops a.tmps) = true) (s y : Operand) (t tx : TypeId) (ho : o.op = .call { callee := .builtin .append, args := #[s, y], argTypes := #[t, tx] }) (e : TypeId) {z : Value} {bytes : Nat} (ht : P.underlying t = some (.slice e)) (hi : infoT P e z 1 bytes)
    {v : Value} {xs : List α} {vs : List Value} {el : α} {u : Value} (hsv : a.eval s = v) (hs : St w0 w Is) (tk : Take Is (listA e xs v vs) Js) (tk2 : Take Js (ownA el [u]) Ks) {x : Value} (hy : a.eval y = x) (hx : Src P 1 tx x 1 [u] w)
    {n : Nat} (hn : xs.length = n) (h63 : n + 1 ≤ maxLen) (hby : (n + 1) * bytes ≤ 140737488355328)
    (h : ∀ A c w', w.heap.size ≤ w'.heap.size → St w0 w' (listA e (xs ++ [el]) (.slice A (n + 1) c) (vs ++ [u]) :: Ks) → wpList P ops Q rest (a.put o.dst (.slice A (n + 1) c)) w') : wpList P ops Q (o :: rest) a w :=
  wpList_wanted hw fun _ hK => wp_appL_st s y t tx ho e ht hi hsv hs tk tk2 hy hx hn h63 hby fun A c w' h1 h2 => hK _ _ (h A c w' h1 h2)
theorem wpList_bslice0_st (hw : Region.wanted o (yielded ops a.tmps) = true) (t : TypeId) (ho : o.op = .buildSlice t 0 #[]) (e : TypeId) (ht : P.underlying t = some (.slice e)) {z : Value} {size bytes : Nat} (hi : infoT P e z size bytes) (hs : St w0 w Is)
    (h : ∀ w' b, w.heap.size = b → St w0 w' (rowA b [] e :: Is) → wpList P ops Q rest (a.put o.dst (.slice (some ⟨b, 0, none⟩) 0 0)) w') : wpList P ops Q (o :: rest) a w :=
  wpList_wanted hw fun _ hK => wp_bslice0_st t ho e ht hi hs fun w' b h1 h2 => hK _ _ (h w' b h1 h2)
theorem wpList_bslice1_st (hw : Region.wanted o (yielded ops a.tmps) = true) (t : TypeId) (y : Operand) (ho : o.op = .buildSlice t 1 #[(0, y)]) (e : TypeId) (ht : P.underlying t = some (.slice e)) {z : Value} {size bytes : Nat} (hi : infoT P e z size bytes) (hp : 0 < size) (hm : size ≤ 1000)
    {x : Value} (hy : a.eval y = x) {vs : List Value} (hv : x.cells.toList = vs) (hx : vs.length = size) (hs : St w0 w Is)
    (h : ∀ w' b, w.heap.size = b → St w0 w' (rowA b vs e :: Is) → wpList P ops Q rest (a.put o.dst (.slice (some ⟨b, 0, none⟩) 1 1)) w') : wpList P ops Q (o :: rest) a w :=
  wpList_wanted hw fun _ hK => wp_bslice1_st t y ho e ht hi hp hm hy hv hx hs fun w' b h1 h2 => hK _ _ (h w' b h1 h2)

theorem wp_make_st (t : TypeId) (l c : Operand) (ho : o.op = .makeSlice t l c) (e : TypeId) {z : Value} {bytes : Nat} (ht : P.underlying t = some (.slice e)) (hi : infoT P e z 1 bytes) {n : Nat} (hl : a.eval l = .int .i64 (n : Int)) (hc : a.eval c = .int .i64 (n : Int))
    (hz : z.cells = #[z]) (hb : bytes * n ≤ 281474976710656) (h63 : n ≤ 9223372036854775807) (hs : St w0 w Is)
    (h : ∀ w' b, w.heap.size = b → St w0 w' (rowA b (List.replicate n z) e :: Is) → K (a.put o.dst (.slice (some ⟨b, 0, none⟩) n n)) w') : o.wp P a w K Q := by
  have hr := run_make_row' t e z bytes ht hi.1 hz .i64 .i64 n hb h63 w
  have hh := hs.alloc (madeCells #[z] n) e
  rw [toList_madeCells_one] at hh
  unfold Oper.wp execOp
  simp only [ho, hl, hc, Sem.run_bind, hr, Result.andThen_ok, Sem.run_pure]
  exact h _ _ rfl hh
theorem St.rowSlot {b n : Nat} {cs : List Value} {E : TypeId} (h : St w0 w Is) (t : Take Is (rowA b cs E) Js) (hn : cs.length = n) (hm : n ≤ maxLen) : St w0 w (slotA E 1 (.slice (some ⟨b, 0, none⟩) n n) n cs :: Js) :=
  (h.take t).same fun F hF => ⟨F, ⟨⟨by omega, .inr ⟨b, 0, n, cs.toArray, rfl, Nat.zero_le _, hF.1, Nat.le_refl _, hm, by simp [hn], fun j hj => by simp⟩⟩, fun c => by rw [hF.2]; simp [Value.blk]⟩, fun _ h => h⟩
theorem St.rowNils {α : Type} [Rep α] {b n : Nat} {E : TypeId} (h : St w0 w Is) (t : Take Is (rowA b (List.replicate n (.slice none 0 0)) E) Js) (hm : n ≤ maxLen) :
    St w0 w (listA E (List.replicate n ([] : List α)) (.slice (some ⟨b, 0, none⟩) n n) (List.replicate n (.slice none 0 0)) :: Js) :=
  (h.take t).same fun F hF => ⟨F, ⟨[b], ⟨⟨by simp, .inr ⟨b, 0, n, (List.replicate n (Value.slice none 0 0)).toArray, by rw [List.length_replicate], Nat.zero_le _, hF.1, by rw [List.length_replicate]; exact Nat.le_refl _, hm, by simp, fun j hj => by simp only [List.getElem?_toArray, Nat.zero_add]⟩⟩, fun _ => [], fun i hi => ⟨.slice none 0 0, by
    rw [List.length_replicate] at hi
    rw [List.getElem?_replicate, if_pos hi], none, 0, by simp, by simp, Nat.zero_le _, .inl ⟨rfl, rfl⟩⟩, by simp [Value.blk], by simp, fun i hi b hb => by cases hb⟩, fun c => by rw [hF.2]; simp⟩, fun _ h => h⟩

/-! ### Regions that draw their order, whose operations leave the parts as they are -/
/-- The worlds that hold the parts. -/
def StW (w0 : World) (Is : List Asn) := { w : World // St w0 w Is }
theorem wp_region_st {id : Nat} {l : List Oper} (hs : St w0 w Is) (hm : P.follows .mixedOrders = true) (hB : Region.lexB .any l.toArray = true)
    (h : Nonempty (StW w0 Is) → wpQuiet P l.toArray (fun w' => ∃ s : StW w0 Is, w' = s.1) (fun a' => ∀ w', St w0 w' Is → Q .normal a' w') l a) : (Code.region id l.toArray true).wp P Q a w := by
  refine wp_region_quiet (C := fun w' => ∃ s : StW w0 Is, w' = s.1) hm hB ⟨⟨_, hs.drew⟩, rfl⟩ ?_
  have e : (fun a' => ∀ w', St w0 w' Is → Q .normal a' w') = (fun a' => ∀ w', (∃ s : StW w0 Is, w' = s.1) → Q .normal a' w') := by
    funext a'
    exact propext ⟨fun h w' ⟨s, e⟩ => e ▸ h s.1 s.2, fun h w' hs => h w' ⟨⟨w', hs⟩, rfl⟩⟩
  rw [← e]
  exact h ⟨⟨_, hs⟩⟩
theorem wp_region_plan_st {id : Nat} {l : List Oper} (hs : St w0 w Is) (p : Plan) (hm : P.follows .mixedOrders = true) (hB : planB l.toArray p = true)
    (h : Nonempty (StW w0 Is) → wpPlan P l.toArray (fun w' => ∃ s : StW w0 Is, w' = s.1) (NoPanic Q) p a w.drew) : (Code.region id l.toArray true).wp P Q a w :=
  wp_region_plan (fun w' => ∃ s : StW w0 Is, w' = s.1) p ⟨⟨_, hs.drew⟩, rfl⟩ hm hB (h ⟨⟨_, hs⟩⟩)
theorem quiet_loadS_st (T : TypeId) (x : Operand) (ho : o.op = .load T x) {b f : Nat} (hx : a.eval x = .pointer (some ⟨b, f, none⟩)) {cs : List Value} {R : TypeId} (t : Take Is (rowA b cs R) Js)
    (hu : scalarT P T) {v : Value} (hc : cs[f]? = some v) {next : Act → Prop} (h : next (a.put o.dst v)) : o.quiet P a (fun w => ∃ s : StW w0 Is, w = s.1) next := by
  refine ⟨v, fun w ⟨s, hw⟩ => ?_, h⟩
  have hs : St w0 w Is := hw ▸ s.2
  obtain ⟨d, hu, hd⟩ := hu
  have hrow := hs.row t
  have hcell : w.cell? ⟨b, f, none⟩ = some v := by rw [cell_row hrow]; simpa using hc
  have hagg : (isAgg T).run P w = .ok false w := by
    unfold isAgg
    rw [Sem.run_bind, run_underlying hu w]
    cases d <;> simp_all
  have hr : (Instr.loadAt T (.pointer (some ⟨b, f, none⟩))).run P w = .ok v w := by
    simp only [Instr.loadAt, Instr.sureAddr, Sem.run_bind, Sem.run_pure, Result.andThen_ok, loadVar, hagg, Bool.false_eq_true, if_false]
    simp [hcell]
  unfold Oper.quietAt execOp
  simp only [ho, hx, Sem.run_bind, hr, Result.andThen_ok, Sem.run_pure]
  exact ⟨rfl, rfl⟩
theorem quiet_loadA_st (T : TypeId) (x : Operand) (ho : o.op = .load T x) {b f : Nat} (hx : a.eval x = .pointer (some ⟨b, f, none⟩)) {cs : List Value} {R : TypeId} (t : Take Is (rowA b cs R) Js)
    {n : Nat} (hu : aggT P T n) {vs : List Value} (hv : (cs.drop f).take n = vs) (hn : vs.length = n) {next : Act → Prop} (h : next (a.put o.dst (.agg vs.toArray))) : o.quiet P a (fun w => ∃ s : StW w0 Is, w = s.1) next := by
  refine ⟨_, fun w ⟨s, hw⟩ => ?_, h⟩
  have hs : St w0 w Is := hw ▸ s.2
  obtain ⟨⟨d, hu, hd⟩, hi⟩ := hu
  have hrow := hs.row t
  have hr := run_loadAt_mid (P := P) w b f T vs d (fun j v hj => by
    rw [cell_row hrow, List.getElem?_toArray]
    rw [← hv, List.getElem?_take] at hj
    split at hj
    · rw [List.getElem?_drop] at hj; exact hj
    · cases hj) hu hd (by rw [hn]; exact hi)
  unfold Oper.quietAt execOp
  simp only [ho, hx, Sem.run_bind, hr, Result.andThen_ok, Sem.run_pure]
  exact ⟨rfl, rfl⟩
theorem StW.mk' {w : World} (h : St w0 w Is) : ∃ s : StW w0 Is, w = s.1 := ⟨⟨w, h⟩, rfl⟩
theorem Calls.st_of {f : FuncId} {args : Array Value} {v : Value} (h : Calls P f args w fun e w' => e = .returned v ∧ Ex w w') (hs : St w0 w Is) : Calls P f args w fun e w' => e = .returned v ∧ St w0 w' Is :=
  h.mono fun _ _ ⟨he, hx⟩ => ⟨he, hs.grow hx⟩
theorem Calls.st_of_same {f : FuncId} {args : Array Value} {v : Value} (h : Calls P f args w fun e w' => e = .returned v ∧ w = w') (hs : St w0 w Is) : Calls P f args w fun e w' => e = .returned v ∧ St w0 w' Is :=
  h.mono fun _ _ ⟨he, hx⟩ => ⟨he, hx ▸ hs⟩
end
end Go
