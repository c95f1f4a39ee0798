/- Slices that the call owns, and append to them. No program in sight. -/
import Derived.Test.YtelkplponnfkpaaMark
import Derived.Deep.AppendSrc
import Derived.Laws.AppendOwn
namespace Go
open Go.RowKit
theorem World.as_upd {w w' : World} (bs : List Nat) (h1 : w'.os = w.os) (h2 : w'.tape = w.tape) (h3 : w'.output = w.output) (hs : w.heap.size ≤ w'.heap.size)
    (hb : ∀ k, k < w.heap.size → k ∉ bs → w'.heap[k]? = w.heap[k]?) : ∃ f g, w' = (w.upd bs f).plus g := by
  refine ⟨fun k => (w'.heap[k]?).getD default, ⟨w'.heap.extract w.heap.size w'.heap.size, w'.drawn⟩, ?_⟩
  have e : w'.heap = (w.upd bs (fun k => (w'.heap[k]?).getD default)).heap ++ w'.heap.extract w.heap.size w'.heap.size := by
    apply Array.ext_getElem?
    intro i
    by_cases hi : i < w.heap.size
    · rw [Array.getElem?_append_left (by simpa using hi)]
      by_cases hm : i ∈ bs
      · rw [World.block_upd_in w bs _ hm hi, Array.getElem?_eq_getElem (by omega)]; simp
      · rw [World.block_upd w bs _ hm, hb i hi hm]
    · rw [Array.getElem?_append_right (by simp; omega), Array.getElem?_extract]
      simp only [World.size_upd]
      split
      · congr 1; omega
      · rw [Array.getElem?_eq_none]; omega
  cases w'
  simp only [World.plus, World.upd] at *
  rw [← e, h1, h2, h3]

/-- The slice value v of n elements (size cells each) owns the cells xs: nil, or in a block from lo on that nothing shares, not frozen, with its spare room. -/
def Slot (lo : Nat) (w : World) (E : TypeId) (size : Nat) (v : Value) (n : Nat) (xs : List Value) : Prop :=
  xs.length = n * size ∧ ((v = .slice none 0 0 ∧ n = 0) ∨ ∃ b off cap cur, v = .slice (some ⟨b, off, none⟩) n cap ∧ lo ≤ b ∧ w.heap[b]? = some (.cells cur E (0, 0)) ∧ n ≤ cap ∧ cap ≤ maxLen ∧ off + cap * size ≤ cur.size ∧
    ∀ j, j < n * size → cur[off + j]? = xs[j]?)
theorem Slot.stay {lo : Nat} {w w' : World} {E : TypeId} {size : Nat} {v : Value} {n : Nat} {xs : List Value} (h : Slot lo w E size v n xs) (hb : ∀ b ∈ v.blk, w'.heap[b]? = w.heap[b]?) : Slot lo w' E size v n xs := by
  obtain ⟨h1, h2 | ⟨b, off, cap, cur, rfl, h3, h4, h5⟩⟩ := h
  · exact ⟨h1, .inl h2⟩
  · exact ⟨h1, .inr ⟨b, off, cap, cur, rfl, h3, by rw [hb b (by simp [Value.blk])]; exact h4, h5⟩⟩
theorem Slot.blk_lt {lo : Nat} {w : World} {E : TypeId} {size : Nat} {v : Value} {n : Nat} {xs : List Value} (h : Slot lo w E size v n xs) : ∀ b ∈ v.blk, lo ≤ b ∧ b < w.heap.size := by
  obtain ⟨h1, ⟨rfl, _⟩ | ⟨b, off, cap, cur, rfl, h3, h4, h5⟩⟩ := h
  · intro b hb; cases hb
  · intro c hc; simp [Value.blk] at hc; subst hc; exact ⟨h3, row_lt h4⟩
theorem Slot.ex {lo : Nat} {w w' : World} {E : TypeId} {size : Nat} {v : Value} {n : Nat} {xs : List Value} (h : Slot lo w E size v n xs) (hx : Ex w w') : Slot lo w' E size v n xs :=
  h.stay fun b hb => hx.block (h.blk_lt b hb).2
theorem Slot.plus {lo : Nat} {w : World} {E : TypeId} {size : Nat} {v : Value} {n : Nat} {xs : List Value} (h : Slot lo w E size v n xs) (g : Gr) : Slot lo (w.plus g) E size v n xs := h.ex ((Ex.refl _).plus g)
theorem Slot.alloc {lo : Nat} {w : World} {E : TypeId} {size : Nat} {v : Value} {n : Nat} {xs : List Value} (h : Slot lo w E size v n xs) (o : Obj) : Slot lo (w.alloc o) E size v n xs := h.ex ((Ex.refl _).alloc o)
theorem Slot.drew {lo : Nat} {w : World} {E : TypeId} {size : Nat} {v : Value} {n : Nat} {xs : List Value} (h : Slot lo w E size v n xs) : Slot lo w.drew E size v n xs := h.ex (Ex.refl _).drew
theorem Slot.setLo {lo : Nat} {w : World} {E : TypeId} {size : Nat} {v : Value} {n : Nat} {xs : List Value} (h : Slot lo w E size v n xs) {p : Addr} (hp : p.block < lo) (x : Value) : Slot lo (w.setCell p x) E size v n xs :=
  h.stay fun b hb => row_setCell_other (by have := (h.blk_lt b hb).1; omega) x
theorem Slot.setN {lo : Nat} {w : World} {E : TypeId} {size : Nat} {v : Value} {n : Nat} {xs : List Value} (h : Slot lo w E size v n xs) {p : Addr} (hp : p.block ∉ v.blk) (x : Value) : Slot lo (w.setCell p x) E size v n xs :=
  h.stay fun _ hb => row_setCell_other (fun e => hp (e ▸ hb)) x
theorem Slot.updN {lo : Nat} {w : World} {E : TypeId} {size : Nat} {v : Value} {n : Nat} {xs : List Value} (h : Slot lo w E size v n xs) {bs : List Nat} {f : Nat → Obj} (hp : ∀ b ∈ v.blk, b ∉ bs) : Slot lo (w.upd bs f) E size v n xs :=
  h.stay fun _ hb => World.block_upd w bs f (hp _ hb)
theorem Slot.agr {lo : Nat} {w w' : World} {E : TypeId} {size : Nat} {v : Value} {n : Nat} {xs : List Value} (h : Slot lo w E size v n xs) (hx : Agr lo w w') : Slot lo w' E size v n xs :=
  h.stay fun b hb => hx b (h.blk_lt b hb).1 (h.blk_lt b hb).2
theorem Slot.nil (lo : Nat) (w : World) (E : TypeId) (size : Nat) : Slot lo w E size (.slice none 0 0) 0 [] := ⟨by simp, .inl ⟨rfl, rfl⟩⟩
theorem Slot.made {lo : Nat} {w : World} {E : TypeId} {size : Nat} (hl : lo ≤ w.heap.size) : Slot lo (w.alloc (.cells #[] E)) E size (.slice (some ⟨w.heap.size, 0, none⟩) 0 0) 0 [] :=
  ⟨by simp, .inr ⟨_, _, _, _, rfl, hl, row_alloc _ _, Nat.le_refl _, Nat.zero_le _, by simp, fun j hj => by simp at hj⟩⟩
theorem Slot.madeN {lo b : Nat} {w : World} {E : TypeId} {size : Nat} (hb : b = w.heap.size) (hl : lo ≤ b) : Slot lo (w.alloc (.cells #[] E)) E size (.slice (some ⟨b, 0, none⟩) 0 0) 0 [] := by
  subst hb; exact Slot.made hl
theorem Slot.madeD {lo b : Nat} {w : World} {E : TypeId} {size : Nat} (hb : b = w.heap.size) (hl : lo ≤ b) : Slot lo (w.alloc (.cells #[] E)).drew E size (.slice (some ⟨b, 0, none⟩) 0 0) 0 [] := by
  subst hb; exact (Slot.made hl).ex (Ex.refl _).drew
theorem Slot.form {lo : Nat} {w : World} {E : TypeId} {size : Nat} {v : Value} {n : Nat} {xs : List Value} (h : Slot lo w E size v n xs) : ∃ a cap, v = .slice a n cap ∧ n ≤ cap := by
  obtain ⟨h1, ⟨rfl, rfl⟩ | ⟨b, off, cap, cur, rfl, h3, h4, h5, _⟩⟩ := h
  · exact ⟨_, _, rfl, Nat.le_refl _⟩
  · exact ⟨_, _, rfl, h5⟩

def nicRow (C : Array Value) : Nat → List Value → Array Value
  | _, [] => C
  | o, v :: r => nicRow (C.setIfInBounds o v) (o + 1) r
theorem nicRow_size : ∀ (vs : List Value) (C : Array Value) (o : Nat), (nicRow C o vs).size = C.size
  | [], _, _ => rfl
  | v :: r, C, o => by rw [nicRow, nicRow_size r]; simp
theorem nicRow_lo : ∀ (vs : List Value) (C : Array Value) (o k : Nat), k < o → (nicRow C o vs)[k]? = C[k]?
  | [], _, _, _, _ => rfl
  | v :: r, C, o, k, h => by rw [nicRow, nicRow_lo r _ _ _ (by omega), Array.getElem?_setIfInBounds, if_neg (by omega)]
theorem nicRow_in : ∀ (vs : List Value) (C : Array Value) (o k : Nat), k < vs.length → o + vs.length ≤ C.size → (nicRow C o vs)[o + k]? = vs[k]?
  | [], _, _, _, h, _ => by simp at h
  | v :: r, C, o, 0, _, hs => by
    simp only [List.length_cons] at hs
    rw [nicRow, Nat.add_zero, nicRow_lo r _ _ _ (by omega), Array.getElem?_setIfInBounds]; simp; omega
  | v :: r, C, o, k + 1, h, hs => by
    simp only [List.length_cons] at h hs
    rw [nicRow, show o + (k + 1) = o + 1 + k from by omega, nicRow_in r _ _ _ (by omega) (by simp; omega)]; simp
theorem row_setCells : ∀ (vs : List Value) (w : World) (b o : Nat) (C : Array Value) (E : TypeId) (fr : Nat × Nat), w.heap[b]? = some (.cells C E fr) → (w.setCells b o vs).heap[b]? = some (.cells (nicRow C o vs) E fr)
  | [], _, _, _, _, _, _, h => h
  | v :: r, w, b, o, C, E, fr, h => by rw [World.setCells, nicRow]; exact row_setCells r _ _ _ _ _ _ (row_setCell h o v)
theorem setCells_rest : ∀ (vs : List Value) (w : World) (b o : Nat), (w.setCells b o vs).os = w.os ∧ (w.setCells b o vs).tape = w.tape ∧ (w.setCells b o vs).output = w.output ∧ (w.setCells b o vs).heap.size = w.heap.size ∧ ∀ k, k ≠ b → (w.setCells b o vs).heap[k]? = w.heap[k]?
  | [], _, _, _ => ⟨rfl, rfl, rfl, rfl, fun _ _ => rfl⟩
  | v :: r, w, b, o => by
    obtain ⟨h1, h2, h3, h4, h5⟩ := setCells_rest r (w.setCell ⟨b, o, none⟩ v) b (o + 1)
    exact ⟨h1, h2, h3, by rw [World.setCells, h4]; simp, fun k hk => by rw [World.setCells, h5 k hk]; exact row_setCell_other (p := ⟨b, o, none⟩) hk v⟩

section
variable {P : Program}
theorem run_app (w : World) (t tx ty e : TypeId) (i : TypeInfo) (z : Value) (ht : P.underlying t = some (.slice e)) (hi : P.info? e = some i) (hz : i.zero = some z) (hzs : z.cells.size = i.size)
    (lo : Nat) (v : Value) (n : Nat) (xs : List Value) (hv : Slot lo w e i.size v n xs) (x : Value) (m : Nat) (news : List Value) (hx : Src P i.size tx x m news w)
    (h63 : n + m ≤ maxLen) (hby : (n + m) * i.bytes ≤ 140737488355328) (hlo : lo ≤ w.heap.size) :
    ∃ v' f g, (Builtin.append_ #[t, tx] ty #[v, x]).run P w = .ok v' ((w.upd v.blk f).plus g) ∧ Slot lo ((w.upd v.blk f).plus g) e i.size v' (n + m) (xs ++ news) ∧ (∀ b ∈ v'.blk, b ∈ v.blk ∨ w.heap.size ≤ b) := by
  have key : ∃ v' w', (Builtin.append_ #[t, tx] ty #[v, x]).run P w = .ok v' w' ∧ Slot lo w' e i.size v' (n + m) (xs ++ news) ∧ (∀ b ∈ v'.blk, b ∈ v.blk ∨ w.heap.size ≤ b) ∧
      w'.os = w.os ∧ w'.tape = w.tape ∧ w'.output = w.output ∧ w.heap.size ≤ w'.heap.size ∧ ∀ k, k < w.heap.size → k ∉ v.blk → w'.heap[k]? = w.heap[k]? := by
    obtain ⟨hl, hv⟩ := hv
    have hml : (n + m : Nat) ≤ 9223372036854775807 := by unfold maxLen at h63; omega
    have grow : ∀ (a : Option Addr) (cap : Nat), v = .slice a n cap → (Builtin.firstCells i.size n (.slice a n cap)).run P w.drew = .ok xs.toArray w.drew → cap < n + m →
        ∃ v' w', (Builtin.append_ #[t, tx] ty #[v, x]).run P w = .ok v' w' ∧ Slot lo w' e i.size v' (n + m) (xs ++ news) ∧ (∀ b ∈ v'.blk, b ∈ v.blk ∨ w.heap.size ≤ b) ∧
          w'.os = w.os ∧ w'.tape = w.tape ∧ w'.output = w.output ∧ w.heap.size ≤ w'.heap.size ∧ ∀ k, k < w.heap.size → k ∉ v.blk → w'.heap[k]? = w.heap[k]? := by
      intro a cap hva hf hc
      subst hva
      refine ⟨_, _, run_append_grow_src w t tx ty e i z ht hi hz a n cap xs hf x m news hx hc (by omega) (growslice_fits hc hby), ⟨by rw [List.length_append, hl, hx.newsLen, Nat.add_mul], .inr ⟨_, _, _, _, rfl, by simpa using hlo, row_alloc _ _, grownCap_ge .., grownCap_le_maxLen _ _ _ _ h63, ?_, fun j hj => ?_⟩⟩, fun b hb => ?_, rfl, rfl, rfl, by simp, fun k hk _ => ?_⟩
      · rw [Array.size_append, List.size_toArray, List.length_append, hl, hx.newsLen, size_zeroCells, hzs, ← Nat.add_mul, ← Nat.add_mul, Nat.zero_add]
        have := grownCap_ge w (n + m) cap e
        rw [show n + m + (grownCap w (n + m) cap e - (n + m)) = grownCap w (n + m) cap e from by omega]
        exact Nat.le_refl _
      · rw [Nat.zero_add, Array.getElem?_append_left (by rw [List.size_toArray, List.length_append, hl, hx.newsLen, ← Nat.add_mul]; exact hj)]
        simp
      · simp [Value.blk] at hb; subst hb; exact .inr (Nat.le_refl _)
      · exact Below.heap_alloc w.drew _ _ hk
    rcases hv with ⟨rfl, rfl⟩ | ⟨b, off, cap, cur, rfl, h1, h2, h3, h4, h5, h6⟩
    · have hxs : xs = [] := List.eq_nil_of_length_eq_zero (by simpa using hl)
      subst hxs
      by_cases hm : m = 0
      · subst hm
        have hn : news = [] := List.eq_nil_of_length_eq_zero (by simpa using hx.newsLen)
        subst hn
        refine ⟨.slice none 0 0, w, ?_, ⟨by simp, .inl ⟨rfl, rfl⟩⟩, fun b hb => (by cases hb), rfl, rfl, rfl, Nat.le_refl _, fun _ _ _ => rfl⟩
        rcases hx.kind with ⟨e', hk⟩ | hk <;> simp [Builtin.append_, run_underlying ht, run_underlying hk, sizeOf, typeInfo, hi, hx.len, hx.cells]
      · exact grow none 0 rfl (run_firstCells_none w.drew i.size 0 0 0) (by omega)
    · by_cases hroom : n + m ≤ cap
      · have hmul : (n + m) * i.size ≤ cap * i.size := Nat.mul_le_mul_right _ hroom
        rw [Nat.add_mul] at hmul
        obtain ⟨r1, r2, r3, r4, r5⟩ := setCells_rest news w b (off + n * i.size)
        refine ⟨_, _, run_append_room_src w t tx ty e i ht hi b off n cap x m news hx hroom (fun j hj => ?_) (fun j hj => frozen_row h2 _), ⟨by rw [List.length_append, hl, hx.newsLen, Nat.add_mul], .inr ⟨b, off, cap, _, rfl, h1, row_setCells _ _ _ _ _ _ _ h2, hroom, h4, by rw [nicRow_size]; exact h5, fun j hj => ?_⟩⟩, fun c hc => .inl hc, r1, r2, r3, Nat.le_of_eq r4.symm, fun k _ hk => r5 k ?_⟩
        · rw [cell_row h2, Array.getElem?_eq_getElem (by rw [hx.newsLen] at hj; omega)]; rfl
        · rw [Nat.add_mul] at hj
          by_cases hjn : j < n * i.size
          · rw [nicRow_lo _ _ _ _ (by omega), h6 j hjn, List.getElem?_append_left (by omega)]
          · rw [List.getElem?_append_right (by omega), hl, show off + j = off + n * i.size + (j - n * i.size) from by omega, nicRow_in _ _ _ _ (by rw [hx.newsLen]; omega) (by rw [hx.newsLen]; omega)]
        · intro e; subst e; exact hk (by simp [Value.blk])
      · refine grow _ cap rfl (run_firstCells_some w.drew i.size n _ n cap xs hl fun j u hj => ?_) (by omega)
        have hjl : j < xs.length := by
          rcases Nat.lt_or_ge j xs.length with h | h
          · exact h
          · rw [List.getElem?_eq_none h] at hj; cases hj
        have hadd : (⟨b, off, none⟩ : Addr).add j = ⟨b, off + j, none⟩ := by unfold Addr.add; split <;> simp_all
        rw [hadd, World.cell?_drew, cell_row h2, h6 j (by omega), hj]
  obtain ⟨v', w', h1, h2, h3, h4, h5, h6, h7, h8⟩ := key
  obtain ⟨f, g, rfl⟩ := World.as_upd v.blk h4 h5 h6 h7 h8
  exact ⟨v', f, g, h1, h2, h3⟩

theorem wp_app {w : World} {o : Oper} {a : Act} {K : Act → World → Prop} {Q : Exit → Act → World → Prop} (s y : Operand) (t tx : TypeId)
    (ho : o.op = .call { callee := .builtin .append, args := #[s, y], argTypes := #[t, tx] }) (e : TypeId) (z : Value) (size bytes : Nat)
    (ht : P.underlying t = some (.slice e)) (hinfo : (P.info? e).map (fun i => (i.zero, i.size, i.bytes)) = some (some z, size, bytes)) (hzs : z.cells.size = size) (lo : Nat) (v : Value) (n : Nat) (xs : List Value) (hs : a.eval s = v) (hv : Slot lo w e size v n xs)
    (x : Value) (m : Nat) (news : List Value) (hy : a.eval y = x) (hx : Src P size tx x m news w) (h63 : n + m ≤ maxLen) (hby : (n + m) * bytes ≤ 140737488355328) (hlo : lo ≤ w.heap.size)
    (h : ∀ v' f g, Slot lo ((w.upd v.blk f).plus g) e size v' (n + m) (xs ++ news) → (∀ b ∈ v'.blk, b ∈ v.blk ∨ w.heap.size ≤ b) → K (a.put o.dst v') ((w.upd v.blk f).plus g)) : o.wp P a w K Q := by
  obtain ⟨i, hi, hzz⟩ := Option.map_eq_some_iff.1 hinfo
  simp only [Prod.mk.injEq] at hzz
  obtain ⟨hz, rfl, rfl⟩ := hzz
  obtain ⟨v', f, g, hr, h2, h3⟩ := run_app w t tx o.type e i z ht hi hz hzs lo v n xs hv x m news hx h63 hby hlo
  unfold Oper.wp execOp
  simp only [ho, resolve, invoke, builtin, Sem.run_bind, Sem.run_pure, Result.andThen_ok, List.map_toArray, List.map_cons, List.map_nil, hs, hy, hr]
  exact h v' f g h2 h3
theorem wpList_app {w : World} {ops : Array Oper} {rest : List Oper} {o : Oper} {a : Act} {Q : Exit → Act → World → Prop} (hgd : o.guard = none) (s y : Operand) (t tx : TypeId)
    (ho : o.op = .call { callee := .builtin .append, args := #[s, y], argTypes := #[t, tx] }) (e : TypeId) (z : Value) (size bytes : Nat)
    (ht : P.underlying t = some (.slice e)) (hinfo : (P.info? e).map (fun i => (i.zero, i.size, i.bytes)) = some (some z, size, bytes)) (hzs : z.cells.size = size) (lo : Nat) (v : Value) (n : Nat) (xs : List Value) (hs : a.eval s = v) (hv : Slot lo w e size v n xs)
    (x : Value) (m : Nat) (news : List Value) (hy : a.eval y = x) (hx : Src P size tx x m news w) (h63 : n + m ≤ maxLen) (hby : (n + m) * bytes ≤ 140737488355328) (hlo : lo ≤ w.heap.size)
    (h : ∀ v' f g, Slot lo ((w.upd v.blk f).plus g) e size v' (n + m) (xs ++ news) → (∀ b ∈ v'.blk, b ∈ v.blk ∨ w.heap.size ≤ b) → wpList P ops Q rest (a.put o.dst v') ((w.upd v.blk f).plus g)) : wpList P ops Q (o :: rest) a w :=
  wpList_plain hgd fun _ hK => wp_app s y t tx ho e z size bytes ht hinfo hzs lo v n xs hs hv x m news hy hx h63 hby hlo fun v' f g h1 h2 => hK _ _ (h v' f g h1 h2)

/-- What is held by a slice value, as the source of an append. -/
theorem Holds.src {α : Type} [Rep α] {w : World} {xs : List α} {a : Option Addr} {n cap : Nat} (h : Holds w xs [.slice a n cap]) {tx e' : TypeId} (hk : P.underlying tx = some (.slice e')) (cells : α → List Value)
    (hc : ∀ x ∈ xs, ∀ vs, Holds w x vs → vs = cells x) (h1 : ∀ x ∈ xs, ∀ u ∈ cells x, u.oneCell' = true) : Src P (Rep.size α) tx (.slice a n cap) n (xs.flatMap cells) w := by
  obtain ⟨a', cap', hv, hn, _, hx⟩ := h.slice
  simp only [List.cons.injEq, Value.slice.injEq, and_true] at hv
  obtain ⟨rfl, rfl, rfl⟩ := hv
  have hlen : ∀ l : List α, (∀ x ∈ l, (cells x).length = Rep.size α) → (l.flatMap cells).length = l.length * Rep.size α := by
    intro l hl
    induction l with
    | nil => simp
    | cons y l ih => rw [List.flatMap_cons, List.length_append, hl y (List.mem_cons_self ..), ih (fun x hx => hl x (List.mem_cons_of_mem _ hx)), List.length_cons, Nat.succ_mul, Nat.add_comm]
  have hcl : ∀ x ∈ xs, (cells x).length = Rep.size α := by
    intro x hm
    obtain ⟨i, hi, rfl⟩ := List.getElem_of_mem hm
    obtain ⟨b, off, ts, _, ht, _⟩ := hx i hi
    rw [← hc _ hm _ ht, ht.len]
  have hone : ∀ u ∈ xs.flatMap cells, u.oneCell' = true := by
    intro u hu
    obtain ⟨x, hm, hu⟩ := List.mem_flatMap.1 hu
    exact h1 x hm u hu
  have hget : ∀ (l : List α), (∀ x ∈ l, (cells x).length = Rep.size α) → ∀ i (hi : i < l.length) j, j < Rep.size α → (l.flatMap cells)[i * Rep.size α + j]? = (cells l[i])[j]? := by
    intro l
    induction l with
    | nil => intro _ i hi; simp at hi
    | cons y l ih =>
      intro hl i hi j hj
      have hy := hl y (List.mem_cons_self ..)
      cases i with
      | zero => rw [List.flatMap_cons, Nat.zero_mul, Nat.zero_add, List.getElem?_append_left (by omega)]; rfl
      | succ i =>
        rw [List.flatMap_cons, List.getElem?_append_right (by rw [hy, Nat.succ_mul]; omega), hy, show (i + 1) * Rep.size α + j - Rep.size α = i * Rep.size α + j from by rw [Nat.succ_mul]; omega]
        exact ih (fun x hx => hl x (List.mem_cons_of_mem _ hx)) i (by simpa using hi) j hj
  have hpos := Rep.pos (α := α)
  cases a with
  | none =>
    have h0 : xs = [] := by
      cases xs with
      | nil => rfl
      | cons y l => obtain ⟨b, off, ts, ha, _⟩ := hx 0 (by simp); cases ha
    subst h0
    exact Src.ofNil w hk cap
  | some ad =>
    refine Src.ofSlice w hk ad xs.length cap _ (hlen xs hcl) (fun j u hj => ?_) hone
    have hjl : j < (xs.flatMap cells).length := by
      rcases Nat.lt_or_ge j (xs.flatMap cells).length with h | h
      · exact h
      · rw [List.getElem?_eq_none h] at hj; cases hj
    rw [hlen xs hcl] at hjl
    have hi : j / Rep.size α < xs.length := by rw [Nat.div_lt_iff_lt_mul hpos]; exact hjl
    have hr : j % Rep.size α < Rep.size α := Nat.mod_lt _ hpos
    have hjd : j / Rep.size α * Rep.size α + j % Rep.size α = j := by rw [Nat.mul_comm]; exact Nat.div_add_mod ..
    obtain ⟨b, off, ts, ha, ht, hcc⟩ := hx _ hi
    simp only [Option.some.injEq] at ha
    subst ha
    have hadd : (⟨b, off, none⟩ : Addr).add j = ⟨b, off + j, none⟩ := by unfold Addr.add; split <;> simp_all
    have h2 := hcc _ hr
    have h3 := hget xs hcl _ hi _ hr
    rw [Nat.add_assoc, hjd] at h2
    rw [hjd, hj] at h3
    rw [hadd, h2, hc _ (List.getElem_mem hi) _ ht, ← h3]
theorem map_flat {α : Type} (f : α → Value) : ∀ xs : List α, (xs.flatMap fun x => [f x]) = xs.map f
  | [] => rfl
  | x :: xs => by rw [List.flatMap_cons, map_flat f xs]; rfl
theorem Holds.srcInts {w : World} {xs : List Int} {a : Option Addr} {n cap : Nat} (h : Holds w xs [.slice a n cap]) {tx e' : TypeId} (hk : P.underlying tx = some (.slice e')) : Src P 1 tx (.slice a n cap) n (xs.map (Value.int .i64)) w := by
  have := h.src (P := P) hk (fun x => [.int .i64 x]) (fun x _ vs hv => hv.int.1) (fun x _ u hu => by simp at hu; subst hu; rfl)
  rwa [map_flat] at this
theorem Holds.srcStrs {w : World} {xs : List ByteArray} {a : Option Addr} {n cap : Nat} (h : Holds w xs [.slice a n cap]) {tx e' : TypeId} (hk : P.underlying tx = some (.slice e')) : Src P 1 tx (.slice a n cap) n (xs.map Value.string) w := by
  have := h.src (P := P) hk (fun x => [.string x]) (fun x _ vs hv => hv.str.1) (fun x _ u hu => by simp at hu; subst hu; rfl)
  rwa [map_flat] at this
/-- One element, just laid. -/
theorem Src.lone {w : World} {tx e' T : TypeId} {c : Nat} (hk : P.underlying tx = some (.slice e')) (cs : Array Value) (hc : ∀ u ∈ cs.toList, u.oneCell' = true) (b : Nat) (hb : w.heap[b]? = some (.cells cs T (0, 0))) :
    Src P cs.size tx (.slice (some ⟨b, 0, none⟩) 1 c) 1 cs.toList w :=
  Src.ofSlice w hk _ _ _ _ (by simp) (fun j u hj => by
    have hadd : (⟨b, 0, none⟩ : Addr).add j = ⟨b, j, none⟩ := by unfold Addr.add; split <;> simp_all
    rw [hadd, cell_row hb]; simpa using hj) hc
end
/-- An owned row of numbers is an owned list. -/
theorem Slot.ints {lo : Nat} {w : World} {E : TypeId} {v : Value} {n : Nat} {xs : List Int} (h : Slot lo w E 1 v n (xs.map (Value.int .i64))) (hok : ∀ x ∈ xs, i64ok x) : n = xs.length ∧ Owns lo w xs [v] := by
  obtain ⟨h1, h2⟩ := h
  simp only [List.length_map, Nat.mul_one] at h1
  subst h1
  refine ⟨rfl, ?_⟩
  rcases h2 with ⟨rfl, h0⟩ | ⟨b, off, cap, cur, rfl, h3, h4, h5, h6, h7, h8⟩
  · have : xs = [] := List.eq_nil_of_length_eq_zero h0
    subst this
    exact ⟨[], ⟨_, _, rfl, Nat.le_refl _, Nat.zero_le _, .inl ⟨rfl, rfl⟩⟩, List.nodup_nil, fun b hb => by cases hb⟩
  · by_cases hc : cap = 0
    · subst hc
      exact ⟨[], ⟨_, _, rfl, h5, h6, .inl ⟨rfl, rfl⟩⟩, List.nodup_nil, fun b hb => by cases hb⟩
    · refine ⟨[b], ⟨_, _, rfl, h5, h6, .inr ⟨b, off, cur, E, (0, 0), fun i => [.int .i64 (xs.getD i 0)], fun _ => [], rfl, by omega, h4, by simpa [Rep.size] using h7, by simp, fun i hi => ⟨⟨by simp [List.getD, List.getElem?_eq_getElem hi], rfl, hok _ (List.getElem_mem hi)⟩, fun j hj => ?_⟩⟩⟩, by simp, fun c hc' => ?_⟩
      · obtain rfl : j = 0 := by simp [Rep.size] at hj; exact hj
        have := h8 i (by omega)
        simp only [Rep.size, Nat.mul_one, Nat.add_zero]
        rw [this]
        simp [List.getD, List.getElem?_eq_getElem hi]
      · simp at hc'; subst hc'; exact ⟨h3, fun o => frozen_row h4 o⟩
end Go
