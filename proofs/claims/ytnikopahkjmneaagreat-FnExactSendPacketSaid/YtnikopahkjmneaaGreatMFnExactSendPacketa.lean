/- Part 1 of what the proof of FnExactSendPacket rests on: an idealised machine, contracts of functions, and the walk of the law. No condition. -/
import Derived.WalkKit
import Derived.WalkSpells
import Derived.WalkLawsBesides
import Derived.BigQuiet
import Derived.ProofKit
import Derived.OpenShut
import Derived.ShutString
import Derived.ChangeOld
import Derived.Deep.Slices
import Derived.IntWalk
import Derived.Deep.OwnRows
import Derived.OrdersHeld
import Derived.Deep.RegionHeld3
import Derived.Test.YtnikopahkjmneaaGreatRows
import Derived.Deep.AppendSrc
import Derived.Laws.AppendOwn
import Derived.Deep.MidRow
import Derived.Great.BuildSlice
import Derived.Laws.IdiomStrings
import Derived.Lib.LazyBuf
import Derived.Laws.MakeOwn
import Derived.Laws.StructEq
import Derived.Great.FillDense
import Derived.Laws.DeepStrings4
import Derived.Orders
import Derived.Laws.BitsLemmas
section
namespace Go
open Go.RowKit
structure Gr where
  o : Array Obj
  d : Nat
instance : Inhabited Gr := ⟨⟨#[], 0⟩⟩
def Gr.add (g k : Gr) : Gr := ⟨g.o ++ k.o, k.d⟩
def Gr.drew (g : Gr) : Gr := ⟨g.o, g.d + 1⟩
theorem Gr.add_assoc (a b c : Gr) : (a.add b).add c = a.add (b.add c) := by simp [Gr.add]
def World.plus (w : World) (g : Gr) : World := { w with heap := w.heap ++ g.o, drawn := g.d }
section
variable (w : World) (g k : Gr)
@[go_sem, simp] theorem World.size_plus : (w.plus g).heap.size = w.heap.size + g.o.size := by simp [World.plus]
@[go_sem] theorem World.cell?_plus (n i : Nat) (hn : n < w.heap.size) : (w.plus g).cell? ⟨n, i, none⟩ = w.cell? ⟨n, i, none⟩ := by
  simp only [World.plus, World.cell?, Array.getElem?_append_left hn]
@[go_sem] theorem World.frozen?_plus (n i : Nat) (hn : n < w.heap.size) : (w.plus g).frozen? ⟨n, i, none⟩ = w.frozen? ⟨n, i, none⟩ := by
  simp only [World.plus, World.frozen?, Array.getElem?_append_left hn]
@[go_sem] theorem World.setCell_plus (n i : Nat) (v : Value) (hn : n < w.heap.size) : (w.plus g).setCell ⟨n, i, none⟩ v = (w.setCell ⟨n, i, none⟩ v).plus g := by
  simp only [World.plus, World.setCell]
  congr 1
  apply Array.ext_getElem?
  intro j
  simp only [Array.getElem?_append, Array.getElem?_modify, Array.size_modify]
  by_cases h : j < w.heap.size
  · simp [h]
  · rw [if_neg h, if_neg h, if_neg (by omega)]
@[go_sem] theorem World.drew_plus : (w.plus g).drew = w.plus g.drew := rfl
@[go_sem] theorem World.plus_drew : w.drew.plus g = w.plus g := rfl
@[go_sem] theorem World.plus_plus : (w.plus g).plus k = w.plus (g.add k) := by simp [World.plus, Gr.add]
@[go_sem] theorem lt_p0 (m : Nat) : (m < m + 1) = True := by simp; try omega
@[go_sem] theorem lt_p1 (m a : Nat) : (m < m + 1 + a) = True := by simp; try omega
@[go_sem] theorem lt_p2 (m a b : Nat) : (m < m + 1 + a + b) = True := by simp; try omega
@[go_sem] theorem lt_p3 (m a b c : Nat) : (m < m + 1 + a + b + c) = True := by simp; try omega
@[go_sem] theorem lt_p4 (m a b c d : Nat) : (m < m + 1 + a + b + c + d) = True := by simp; try omega
@[go_sem] theorem lt_p5 (m a b c d e : Nat) : (m < m + 1 + a + b + c + d + e) = True := by simp; try omega
@[go_sem] theorem lt_p6 (m a b c d e f : Nat) : (m < m + 1 + a + b + c + d + e + f) = True := by simp; try omega
@[go_sem] theorem lt_p7 (m a b c d e f g : Nat) : (m < m + 1 + a + b + c + d + e + f + g) = True := by simp; try omega
@[go_sem] theorem lt_p8 (m a b c d e f g h : Nat) : (m < m + 1 + a + b + c + d + e + f + g + h) = True := by simp; try omega
@[go_sem] theorem lt_p9 (m a b c d e f g h i : Nat) : (m < m + 1 + a + b + c + d + e + f + g + h + i) = True := by simp; try omega
@[go_sem] theorem lt_p10 (m a b c d e f g h i j : Nat) : (m < m + 1 + a + b + c + d + e + f + g + h + i + j) = True := by simp; try omega
@[go_sem] theorem lt_q1 {a b : Nat} (c0 : Nat) (h : a < b) : (a < b + c0) = True := by simp; omega
@[go_sem] theorem lt_q2 {a b : Nat} (c0 c1 : Nat) (h : a < b) : (a < b + c0 + c1) = True := by simp; omega
@[go_sem] theorem lt_q3 {a b : Nat} (c0 c1 c2 : Nat) (h : a < b) : (a < b + c0 + c1 + c2) = True := by simp; omega
@[go_sem] theorem lt_q4 {a b : Nat} (c0 c1 c2 c3 : Nat) (h : a < b) : (a < b + c0 + c1 + c2 + c3) = True := by simp; omega
@[go_sem] theorem lt_q5 {a b : Nat} (c0 c1 c2 c3 c4 : Nat) (h : a < b) : (a < b + c0 + c1 + c2 + c3 + c4) = True := by simp; omega
@[go_sem] theorem lt_q6 {a b : Nat} (c0 c1 c2 c3 c4 c5 : Nat) (h : a < b) : (a < b + c0 + c1 + c2 + c3 + c4 + c5) = True := by simp; omega
@[go_sem] theorem lt_q7 {a b : Nat} (c0 c1 c2 c3 c4 c5 c6 : Nat) (h : a < b) : (a < b + c0 + c1 + c2 + c3 + c4 + c5 + c6) = True := by simp; omega
@[go_sem] theorem lt_q8 {a b : Nat} (c0 c1 c2 c3 c4 c5 c6 c7 : Nat) (h : a < b) : (a < b + c0 + c1 + c2 + c3 + c4 + c5 + c6 + c7) = True := by simp; omega
theorem World.alloc_is_plus (x : Obj) : w.alloc x = w.plus ⟨#[x], w.drawn⟩ := by unfold World.plus World.alloc; rw [Array.push_eq_append]
theorem World.drew_is_plus : w.drew = w.plus ⟨#[], w.drawn + 1⟩ := by unfold World.plus World.drew; rw [Array.append_empty]
theorem World.self_is_plus : w = w.plus ⟨#[], w.drawn⟩ := by simp [World.plus]
end
def Ex (w w' : World) : Prop := ∃ g, w' = w.plus g
theorem Ex.refl (w : World) : Ex w w := ⟨_, w.self_is_plus⟩
theorem Ex.trans {a b c : World} (h : Ex a b) (k : Ex b c) : Ex a c := by
  obtain ⟨g, rfl⟩ := h; obtain ⟨p, rfl⟩ := k; exact ⟨_, World.plus_plus ..⟩
theorem Ex.alloc {a b : World} (h : Ex a b) (x : Obj) : Ex a (b.alloc x) := h.trans ⟨_, World.alloc_is_plus b x⟩
theorem Ex.drew {a b : World} (h : Ex a b) : Ex a b.drew := h.trans ⟨_, World.drew_is_plus b⟩
theorem Ex.plus {a b : World} (h : Ex a b) (g : Gr) : Ex a (b.plus g) := h.trans ⟨g, rfl⟩
theorem Ex.plus_drew {a w : World} {g : Gr} (h : Ex a (w.plus g)) : Ex a (w.plus g.drew) := h.drew
theorem Ex.below {w w' : World} (h : Ex w w') : Below w.heap.size w w' := by
  obtain ⟨g, rfl⟩ := h
  exact ⟨rfl, rfl, rfl, by simp, fun k hk => by simp only [World.plus, Array.getElem?_append_left hk]⟩
theorem Ex.of_below {w w' : World} (h : Below w.heap.size w w') : Ex w w' := by
  refine ⟨⟨w'.heap.extract w.heap.size w'.heap.size, w'.drawn⟩, ?_⟩
  have e : w'.heap = w.heap ++ w'.heap.extract w.heap.size w'.heap.size := by
    apply Array.ext_getElem?
    intro i
    by_cases hi : i < w.heap.size
    · rw [Array.getElem?_append_left hi, h.block i hi]
    · rw [Array.getElem?_append_right (by omega), Array.getElem?_extract]
      split
      · congr 1; omega
      · rw [Array.getElem?_eq_none]; omega
  cases w'
  simp only [World.plus] at *
  rw [← e]
  have h1 := h.os; have h2 := h.tape; have h3 := h.output
  simp only at h1 h2 h3
  rw [h1, h2, h3]
theorem Ex.size {w w' : World} (h : Ex w w') : w.heap.size ≤ w'.heap.size := h.below.size
theorem Ex.cell {w w' : World} (h : Ex w w') {p : Addr} (hp : p.block < w.heap.size) : w'.cell? p = w.cell? p := h.below.cell hp
theorem Ex.frozen {w w' : World} (h : Ex w w') {p : Addr} (hp : p.block < w.heap.size) : w'.frozen? p = w.frozen? p := h.below.frozen hp
theorem Ex.block {w w' : World} (h : Ex w w') {k : Nat} (hk : k < w.heap.size) : w'.heap[k]? = w.heap[k]? := h.below.block k hk
theorem hid {p : Prop} (h : p) : Hid p := h
def inB (n a b : Int) : Bool := decide (a ≤ n) && decide (n ≤ b)
theorem inB_iff {n a b : Int} : inB n a b = true ↔ a ≤ n ∧ n ≤ b := by simp [inB]
end Go
end
section
namespace Go
open Go.RowKit
class Rep (α : Type) where
  size : Nat
  tree : World → α → List Value → List Nat → Prop
  pos : 0 < size
  len : ∀ {w : World} {a : α} {vs : List Value} {bs : List Nat}, tree w a vs bs → vs.length = size
  lt : ∀ {w : World} {a : α} {vs : List Value} {bs : List Nat}, tree w a vs bs → ∀ b ∈ bs, b < w.heap.size
  stable : ∀ {w w' : World} {a : α} {vs : List Value} {bs : List Nat}, tree w a vs bs → (∀ b ∈ bs, w'.heap[b]? = w.heap[b]?) → tree w' a vs bs
def i64ok (n : Int) : Prop := -9223372036854775808 ≤ n ∧ n ≤ 9223372036854775807
instance : Rep Int where
  size := 1
  tree _ n vs bs := vs = [.int .i64 n] ∧ bs = [] ∧ i64ok n
  pos := by decide
  len := by rintro _ _ _ _ ⟨rfl, _⟩; rfl
  lt := by rintro _ _ _ _ ⟨_, rfl, _⟩ b hb; cases hb
  stable := fun h _ => h
instance : Rep Bool where
  size := 1
  tree _ n vs bs := vs = [.bool n] ∧ bs = []
  pos := by decide
  len := by rintro _ _ _ _ ⟨rfl, _⟩; rfl
  lt := by rintro _ _ _ _ ⟨_, rfl⟩ b hb; cases hb
  stable := fun h _ => h
instance : Rep ByteArray where
  size := 1
  tree _ s vs bs := vs = [.string s] ∧ bs = [] ∧ s.size ≤ maxLen
  pos := by decide
  len := by rintro _ _ _ _ ⟨rfl, _⟩; rfl
  lt := by rintro _ _ _ _ ⟨_, rfl, _⟩ b hb; cases hb
  stable := fun h _ => h
instance : Rep UInt8 where
  size := 1
  tree _ n vs bs := vs = [.int .u8 n.toNat] ∧ bs = []
  pos := by decide
  len := by rintro _ _ _ _ ⟨rfl, _⟩; rfl
  lt := by rintro _ _ _ _ ⟨_, rfl⟩ b hb; cases hb
  stable := fun h _ => h
instance {α β : Type} [Rep α] [Rep β] : Rep (α × β) where
  size := Rep.size α + Rep.size β
  tree w x vs bs := ∃ v1 v2 b1 b2, vs = v1 ++ v2 ∧ bs = b1 ++ b2 ∧ Rep.tree w x.1 v1 b1 ∧ Rep.tree w x.2 v2 b2
  pos := Nat.add_pos_left (Rep.pos) _
  len := by rintro _ _ _ _ ⟨v1, v2, b1, b2, rfl, rfl, h1, h2⟩; rw [List.length_append, Rep.len h1, Rep.len h2]
  lt := by
    rintro _ _ _ _ ⟨v1, v2, b1, b2, rfl, rfl, h1, h2⟩ b hb
    rcases List.mem_append.1 hb with hb | hb
    · exact Rep.lt h1 b hb
    · exact Rep.lt h2 b hb
  stable := by
    rintro _ _ _ _ _ ⟨v1, v2, b1, b2, rfl, rfl, h1, h2⟩ h
    exact ⟨v1, v2, b1, b2, rfl, rfl, Rep.stable h1 fun b hb => h b (List.mem_append_left _ hb), Rep.stable h2 fun b hb => h b (List.mem_append_right _ hb)⟩
def Elems {α : Type} [Rep α] (w : World) (xs : List α) (cur : Array Value) (off : Nat) (ts : Nat → List Value) (ds : Nat → List Nat) : Prop :=
  ∀ i (h : i < xs.length), Rep.tree w (xs[i]'h) (ts i) (ds i) ∧ ∀ j, j < Rep.size α → cur[off + i * Rep.size α + j]? = (ts i)[j]?
instance {α : Type} [Rep α] : Rep (List α) where
  size := 1
  tree w xs vs bs := ∃ a cap, vs = [.slice a xs.length cap] ∧ xs.length ≤ cap ∧ cap ≤ maxLen ∧
    ((cap = 0 ∧ bs = []) ∨ ∃ b off cur E fr ts ds, a = some ⟨b, off, none⟩ ∧ 0 < cap ∧ w.heap[b]? = some (.cells cur E fr) ∧ off + cap * Rep.size α ≤ cur.size ∧
      bs = b :: (List.range xs.length).flatMap ds ∧ Elems w xs cur off ts ds)
  pos := by decide
  len := by rintro _ _ _ _ ⟨_, _, rfl, _⟩; rfl
  lt := by
    rintro w xs _ _ ⟨_, _, rfl, _, _, ⟨_, rfl⟩ | ⟨b, off, cur, E, fr, ts, ds, _, _, hb, _, rfl, he⟩⟩ c hc
    · cases hc
    · rcases List.mem_cons.1 hc with rfl | hc
      · rcases Nat.lt_or_ge c w.heap.size with h | h
        · exact h
        · rw [Array.getElem?_eq_none h] at hb; cases hb
      · obtain ⟨i, hi, hc⟩ := List.mem_flatMap.1 hc
        exact Rep.lt (he i (List.mem_range.1 hi)).1 c hc
  stable := by
    rintro w w' xs _ _ ⟨a, cap, rfl, h1, h2, h3⟩ h
    refine ⟨a, cap, rfl, h1, h2, ?_⟩
    rcases h3 with ⟨h3, rfl⟩ | ⟨b, off, cur, E, fr, ts, ds, ha, hp, hb, hs, rfl, he⟩
    · exact .inl ⟨h3, rfl⟩
    · refine .inr ⟨b, off, cur, E, fr, ts, ds, ha, hp, ?_, hs, rfl, ?_⟩
      · rw [h b (List.mem_cons_self ..)]; exact hb
      · intro i hi
        refine ⟨Rep.stable (he i hi).1 fun c hc => h c (List.mem_cons_of_mem _ ?_), (he i hi).2⟩
        exact List.mem_flatMap.2 ⟨i, List.mem_range.2 hi, hc⟩
def Holds {α : Type} [Rep α] (w : World) (a : α) (vs : List Value) : Prop := ∃ bs, Rep.tree w a vs bs
theorem Holds.ex {α : Type} [Rep α] {w w' : World} {a : α} {vs : List Value} (h : Holds w a vs) (hx : Ex w w') : Holds w' a vs := by
  obtain ⟨bs, h⟩ := h
  exact ⟨bs, Rep.stable h fun b hb => hx.block (Rep.lt h b hb)⟩
def Owns {α : Type} [Rep α] (lo : Nat) (w : World) (a : α) (vs : List Value) : Prop :=
  ∃ bs, Rep.tree w a vs bs ∧ bs.Nodup ∧ ∀ b ∈ bs, lo ≤ b ∧ ∀ o, w.frozen? ⟨b, o, none⟩ = false
theorem Owns.holds {α : Type} [Rep α] {lo : Nat} {w : World} {a : α} {vs : List Value} (h : Owns lo w a vs) : Holds w a vs := let ⟨bs, h, _⟩ := h; ⟨bs, h⟩
theorem Owns.ex {α : Type} [Rep α] {lo : Nat} {w w' : World} {a : α} {vs : List Value} (h : Owns lo w a vs) (hx : Ex w w') : Owns lo w' a vs := by
  obtain ⟨bs, h, hn, hb⟩ := h
  exact ⟨bs, Rep.stable h fun b hb => hx.block (Rep.lt h b hb), hn, fun b hb' => ⟨(hb b hb').1, fun o => by rw [hx.frozen (p := ⟨b, o, none⟩) (Rep.lt h b hb')]; exact (hb b hb').2 o⟩⟩
section
variable {P : Program}
def Opens (P : Program) (t : TypeId) (α : Type) [Rep α] : Prop := P.cellsOf t = Rep.size α ∧
  ∀ {H : Type} (enc : TypeId × Value → H) (w : World) (base : Nat) (held : Bool) (fuel : Nat) (cs : List Value) (x : DataW H × List MemPlace),
    DataW.trod enc P w base (fun _ => true) held fuel t cs = some x → ∃ a : α, Holds w a cs
theorem Opens.int {t : TypeId} (ht : P.underlying t = some (.int .i64)) (hc : P.cellsOf t = 1) : Opens P t Int :=
  ⟨hc, fun enc w base held fuel cs x h => by
    obtain ⟨n, rfl, _, hw⟩ := DataW.trod_int ht h
    refine ⟨n, [], rfl, rfl, ?_⟩
    have := bounds_i64 hw
    unfold i64ok; omega⟩
theorem Opens.byte {t : TypeId} (ht : P.underlying t = some (.int .u8)) (hc : P.cellsOf t = 1) : Opens P t UInt8 :=
  ⟨hc, fun enc w base held fuel cs x h => by
    obtain ⟨n, rfl, _, hw⟩ := DataW.trod_int ht h
    have hw := bounds_u8 hw
    refine ⟨UInt8.ofNat n.toNat, [], ?_, rfl⟩
    have : (UInt8.ofNat n.toNat).toNat = n.toNat := by simp [UInt8.toNat_ofNat']; omega
    rw [this]
    congr 2; omega⟩
theorem Opens.bool {t : TypeId} (ht : P.underlying t = some .bool) (hc : P.cellsOf t = 1) : Opens P t Bool :=
  ⟨hc, fun enc w base held fuel cs x h => by
    obtain ⟨n, rfl, _⟩ := DataW.trod_bool ht h
    exact ⟨n, [], rfl, rfl⟩⟩
theorem Opens.string {t : TypeId} (ht : P.underlying t = some .string) (hc : P.cellsOf t = 1) : Opens P t ByteArray :=
  ⟨hc, fun enc w base held fuel cs x h => by
    obtain ⟨n, rfl, _, hw⟩ := DataW.trod_string ht h
    exact ⟨n, [], rfl, rfl, hw⟩⟩
theorem Opens.slice {t e : TypeId} {α : Type} [Rep α] (ht : P.underlying t = some (.slice e)) (hc : P.cellsOf t = 1) (he : Opens P e α) : Opens P t (List α) :=
  ⟨hc, fun enc w base held fuel cs x h => by
    rcases Deep.open_slice ht h with ⟨rfl, _⟩ | ⟨a, len, cap, m, n, D, Pl, rfl, _, hl, hm, hmm, _, hx⟩
    · exact ⟨[], [], none, 0, rfl, Nat.le_refl _, Nat.zero_le _, .inl ⟨rfl, rfl⟩⟩
    · simp only [if_true] at hmm
      subst hmm
      have key : ∀ i, i < m → ∃ p : α × List Value × List Nat, Rep.tree w p.1 p.2.1 p.2.2 ∧ w.cells? base (a.add (i * P.cellsOf e)) (P.cellsOf e) = some p.2.1 := by
        intro i hi
        obtain ⟨cs', h1, h2⟩ := hx i hi
        obtain ⟨y, bs, hy⟩ := he.2 enc w base held n cs' _ h2
        exact ⟨(y, cs', bs), hy, h1⟩
      by_cases h0 : m = 0
      · subst h0
        obtain rfl : len = 0 := by omega
        exact ⟨[], [], some a, 0, rfl, Nat.le_refl _, Nat.zero_le _, .inl ⟨rfl, rfl⟩⟩
      · obtain ⟨p0, _, hp0⟩ := key 0 (by omega)
        haveI : Inhabited (α × List Value × List Nat) := ⟨p0⟩
        obtain ⟨F, hF⟩ := Deep.choose_lt key
        obtain ⟨b, off, spot⟩ := a
        have hpos : 0 < P.cellsOf e := by rw [he.1]; exact Rep.pos
        have hcell : ∀ i, i < m → ∀ j, j < P.cellsOf e → w.cell? ((⟨b, off, spot⟩ : Addr).add (i * P.cellsOf e + j)) = (F i).2.1[j]? ∧ (F i).2.1.length = P.cellsOf e := by
          intro i hi j hj
          obtain ⟨_, h2, h3⟩ := World.cells?_some (hF i hi).2
          refine ⟨?_, h2⟩
          rw [← h3 j hj, Deep.add_add]
        have hs : spot = none := by
          have h1 := hcell 0 (by omega) 0 hpos
          have h2 : w.cell? ((⟨b, off, spot⟩ : Addr).add (0 * P.cellsOf e + 0)) = some ((F 0).2.1[0]'(by rw [h1.2]; exact hpos)) := h1.1.trans (List.getElem?_eq_getElem _)
          simpa [Addr.add] using World.cell?_spot h2
        subst hs
        have hadd : ∀ k, (⟨b, off, none⟩ : Addr).add k = ⟨b, off + k, none⟩ := by intro k; unfold Addr.add; split <;> simp_all
        obtain ⟨cur, E, fr, hcur⟩ : ∃ cur E fr, w.heap[b]? = some (.cells cur E fr) := by
          have h1 := hcell 0 (by omega) 0 hpos
          have h2 : w.cell? ⟨b, off + (0 * P.cellsOf e + 0), none⟩ = some ((F 0).2.1[0]'(by rw [h1.2]; exact hpos)) := by rw [← hadd]; exact h1.1.trans (List.getElem?_eq_getElem _)
          unfold World.cell? at h2
          split at h2
          · rename_i c e f hb; exact ⟨c, e, f, hb⟩
          · cases h2
        have hget : ∀ i, i < m → ∀ j, j < P.cellsOf e → cur[off + (i * P.cellsOf e + j)]? = (F i).2.1[j]? := by
          intro i hi j hj
          rw [← (hcell i hi j hj).1, hadd]
          simp [World.cell?, hcur]
        refine ⟨(List.range len).map fun i => (F i).1, b :: (List.range len).flatMap fun i => (F i).2.2, some ⟨b, off, none⟩, m, by simp, by simpa using hl, hm, .inr ⟨b, off, cur, E, fr, fun i => (F i).2.1, fun i => (F i).2.2, rfl, by omega, hcur, ?_, by simp, ?_⟩⟩
        · rw [← he.1]
          have h1 := hget (m - 1) (by omega) (P.cellsOf e - 1) (by omega)
          have h2 := (hcell (m - 1) (by omega) 0 hpos).2
          rw [List.getElem?_eq_getElem (by omega)] at h1
          have h3 := (Array.getElem?_eq_some_iff.1 h1).1
          have h4 : (m - 1) * P.cellsOf e + P.cellsOf e = m * P.cellsOf e := by rw [← Nat.succ_mul]; congr 1; omega
          omega
        · intro i hi
          have hi' : i < len := by simpa using hi
          refine ⟨by simpa using (hF i (by omega)).1, fun j hj => ?_⟩
          rw [← he.1] at hj ⊢
          rw [Nat.add_assoc]
          exact hget i (by omega) j hj⟩
inductive OpensL (P : Program) : Nat → List Field → (α : Type) → [Rep α] → Prop
  | one {off : Nat} {f : Field} {α : Type} [Rep α] (h : f.offset = off) (ho : Opens P f.type α) : OpensL P off [f] α
  | cons {off : Nat} {f : Field} {fs : List Field} {α β : Type} [Rep α] [Rep β] (h : f.offset = off) (ho : Opens P f.type α) (hs : OpensL P (off + Rep.size α) fs β) : OpensL P off (f :: fs) (α × β)
end
theorem OpensL.open {P : Program} {off : Nat} {fs : List Field} {α : Type} [i : Rep α] (ho : OpensL P off fs α) : ∀ {H : Type} (enc : TypeId × Value → H) (w : World) (base : Nat) (held : Bool) (fuel : Nat) (cs : List Value),
    cs.length = off + Rep.size α → (∀ f ∈ fs, ∃ x, DataW.trod enc P w base (fun _ => true) held fuel f.type ((cs.drop f.offset).take (P.cellsOf f.type)) = some x) → ∃ a : α, Holds w a (cs.drop off) := by
  induction ho with
  | one h ho =>
    intro H enc w base held fuel cs hl hf
    obtain ⟨x, hx⟩ := hf _ (List.mem_cons_self ..)
    obtain ⟨a, ha⟩ := ho.2 enc w base held fuel _ _ hx
    refine ⟨a, ?_⟩
    rw [h, ho.1, List.take_of_length_le (by rw [List.length_drop]; omega)] at ha
    exact ha
  | cons h ho hs ih =>
    intro H enc w base held fuel cs hl hf
    obtain ⟨x, hx⟩ := hf _ (List.mem_cons_self ..)
    obtain ⟨a, ba, ha⟩ := ho.2 enc w base held fuel _ _ hx
    obtain ⟨b, bb, hb⟩ := ih enc w base held fuel cs (by rw [hl]; simp only [Rep.size]; omega) (fun f hm => hf f (List.mem_cons_of_mem _ hm))
    refine ⟨(a, b), ba ++ bb, _, _, ba, bb, ?_, rfl, ha, hb⟩
    rw [h, ho.1, ← List.drop_drop, List.take_append_drop]
theorem Opens.struct {P : Program} {t : TypeId} {fs : Array Field} {α : Type} [Rep α] (ht : P.underlying t = some (.struct fs)) (hc : P.cellsOf t = Rep.size α) (h : OpensL P 0 fs.toList α) : Opens P t α :=
  ⟨hc, fun enc w base held fuel cs x hx => by
    obtain ⟨xs, n, rfl, _, hl, hxs, hfs⟩ := DataW.trod_struct ht hx
    have := h.open enc w base held n cs (by omega) (fun f hf => by
      obtain ⟨i, hi, rfl⟩ := List.getElem_of_mem hf
      have hi' : i < fs.size := by simpa using hi
      have := hfs i _ (by rw [Array.getElem?_eq_getElem hi'])
      refine ⟨xs[i]'(by omega), ?_⟩
      rw [List.getElem?_eq_getElem (by omega)] at this
      simpa using this)
    simpa using this⟩
end Go
end
section
namespace Go
open Go.RowKit
theorem cell_row {w : World} {B : Nat} {C : Array Value} {E : TypeId} {fr : Nat × Nat} (h : w.heap[B]? = some (.cells C E fr)) (i : Nat) : w.cell? ⟨B, i, none⟩ = C[i]? := by simp [World.cell?, h]
theorem frozen_row {w : World} {B : Nat} {C : Array Value} {E : TypeId} (h : w.heap[B]? = some (.cells C E (0, 0))) (i : Nat) : w.frozen? ⟨B, i, none⟩ = false := by simp [World.frozen?, h]
theorem row_setCell {w : World} {B : Nat} {C : Array Value} {E : TypeId} {fr : Nat × Nat} (h : w.heap[B]? = some (.cells C E fr)) (i : Nat) (v : Value) : (w.setCell ⟨B, i, none⟩ v).heap[B]? = some (.cells (C.setIfInBounds i v) E fr) := by
  simp [World.setCell, Array.getElem?_modify, h]
theorem row_setCell_other {w : World} {B : Nat} {p : Addr} (hp : B ≠ p.block) (v : Value) : (w.setCell p v).heap[B]? = w.heap[B]? := by
  simp only [World.setCell, Array.getElem?_modify]
  rw [if_neg (fun h => hp h.symm)]
theorem row_lt {w : World} {B : Nat} {o : Obj} (h : w.heap[B]? = some o) : B < w.heap.size := by
  rcases Nat.lt_or_ge B w.heap.size with h' | h'
  · exact h'
  · rw [Array.getElem?_eq_none h'] at h; cases h
theorem row_alloc (w : World) (o : Obj) : (w.alloc o).heap[w.heap.size]? = some o := by show (w.heap.push o)[w.heap.size]? = _; simp
theorem Ex.setCell {a b : World} (h : Ex a b) {p : Addr} (hp : a.heap.size ≤ p.block) (v : Value) : Ex a (b.setCell p v) := Ex.of_below (h.below.setCell hp v)
theorem Ex.row {a b : World} (h : Ex a b) {B : Nat} {o : Obj} (hB : a.heap[B]? = some o) : b.heap[B]? = some o := by rw [h.block (row_lt hB)]; exact hB
theorem Holds.slice {α : Type} [Rep α] {w : World} {xs : List α} {vs : List Value} (h : Holds w xs vs) : ∃ a cap, vs = [.slice a xs.length cap] ∧ xs.length ≤ cap ∧ cap ≤ maxLen ∧
    ∀ i (hi : i < xs.length), ∃ b off ts, a = some ⟨b, off, none⟩ ∧ Holds w (xs[i]'hi) ts ∧ ∀ j, j < Rep.size α → w.cell? ⟨b, off + i * Rep.size α + j, none⟩ = ts[j]? := by
  obtain ⟨bs, a, cap, rfl, h1, h2, h3⟩ := h
  refine ⟨a, cap, rfl, h1, h2, fun i hi => ?_⟩
  rcases h3 with ⟨h3, _⟩ | ⟨b, off, cur, E, fr, ts, ds, rfl, _, hb, _, _, he⟩
  · omega
  · exact ⟨b, off, ts i, rfl, ⟨_, (he i hi).1⟩, fun j hj => by rw [cell_row hb]; exact (he i hi).2 j hj⟩
theorem Holds.int {w : World} {n : Int} {vs : List Value} (h : Holds w n vs) : vs = [.int .i64 n] ∧ i64ok n := let ⟨_, h1, _, h2⟩ := h; ⟨h1, h2⟩
theorem Holds.bool {w : World} {n : Bool} {vs : List Value} (h : Holds w n vs) : vs = [.bool n] := let ⟨_, h1, _⟩ := h; h1
theorem Holds.str {w : World} {n : ByteArray} {vs : List Value} (h : Holds w n vs) : vs = [.string n] ∧ n.size ≤ maxLen := let ⟨_, h1, _, h2⟩ := h; ⟨h1, h2⟩
theorem Holds.byte {w : World} {n : UInt8} {vs : List Value} (h : Holds w n vs) : vs = [.int .u8 n.toNat] := let ⟨_, h1, _⟩ := h; h1
theorem Holds.len {α : Type} [Rep α] {w : World} {x : α} {vs : List Value} (h : Holds w x vs) : vs.length = Rep.size α := let ⟨_, h⟩ := h; Rep.len h
def Agr (lo : Nat) (a b : World) : Prop := ∀ k, lo ≤ k → k < a.heap.size → b.heap[k]? = a.heap[k]?
theorem Agr.refl (lo : Nat) (a : World) : Agr lo a a := fun _ _ _ => rfl
theorem Agr.ex {lo : Nat} {a b c : World} (h : Agr lo a b) (hs : a.heap.size ≤ b.heap.size) (k : Ex b c) : Agr lo a c := fun i h1 h2 => (k.block (Nat.lt_of_lt_of_le h2 hs)).trans (h i h1 h2)
theorem Agr.plus {lo : Nat} {a b : World} {g : Gr} (hs : a.heap.size = b.heap.size) (hl : a.heap.size ≤ lo) : Agr lo (a.plus g) (b.plus g) := by
  intro i h1 h2
  simp only [World.plus]
  rw [Array.getElem?_append_right (by omega), Array.getElem?_append_right (by omega), hs]
def RetSl {α : Type} [Rep α] (w : World) (xs : List α) (e : Ending) (w' : World) : Prop := ∃ a cap, e = .returned (.slice a xs.length cap) ∧ Owns w.heap.size w' xs [.slice a xs.length cap] ∧ Ex w w'
end Go
end
section
namespace Go
open Go.RowKit
end Go
end
section
namespace Go
open Go.RowKit
def World.upd (w : World) (bs : List Nat) (h : Nat → Obj) : World := { w with heap := w.heap.mapIdx fun i o => if i ∈ bs then h i else o }
section
variable (w : World) (bs : List Nat) (h : Nat → Obj)
@[go_sem, simp] theorem World.size_upd : (w.upd bs h).heap.size = w.heap.size := by simp [World.upd]
theorem World.block_upd {n : Nat} (hn : n ∉ bs) : (w.upd bs h).heap[n]? = w.heap[n]? := by
  simp only [World.upd, Array.getElem?_mapIdx]
  cases w.heap[n]? with
  | none => rfl
  | some o => simp [hn]
theorem World.block_upd_in {n : Nat} (hn : n ∈ bs) (hl : n < w.heap.size) : (w.upd bs h).heap[n]? = some (h n) := by
  simp only [World.upd, Array.getElem?_mapIdx]
  rw [Array.getElem?_eq_getElem hl]
  simp [hn]
@[go_sem] theorem World.cell?_upd (n i : Nat) (hn : n ∉ bs) : (w.upd bs h).cell? ⟨n, i, none⟩ = w.cell? ⟨n, i, none⟩ := by
  simp only [World.cell?, World.block_upd w bs h hn]
@[go_sem] theorem World.frozen?_upd (n i : Nat) (hn : n ∉ bs) : (w.upd bs h).frozen? ⟨n, i, none⟩ = w.frozen? ⟨n, i, none⟩ := by
  simp only [World.frozen?, World.block_upd w bs h hn]
@[go_sem] theorem World.setCell_upd (n i : Nat) (v : Value) (hn : n ∉ bs) : (w.upd bs h).setCell ⟨n, i, none⟩ v = (w.setCell ⟨n, i, none⟩ v).upd bs h := by
  unfold World.upd World.setCell
  simp only
  congr 1
  apply Array.ext_getElem?
  intro k
  simp only [Array.getElem?_modify, Array.getElem?_mapIdx]
  by_cases hk : n = k
  · subst hk
    cases w.heap[n]? with
    | none => simp
    | some o => simp [hn]
  · simp only [if_neg hk]
@[go_sem] theorem World.drew_upd : w.drew.upd bs h = (w.upd bs h).drew := rfl
end
theorem Ex.upd {a b : World} (h : Ex a b) {bs : List Nat} {f : Nat → Obj} (hb : ∀ x ∈ bs, a.heap.size ≤ x) : Ex a (b.upd bs f) := by
  have hx := h.below
  refine Ex.of_below ⟨hx.os, hx.tape, hx.output, by simp [hx.size], fun k hk => ?_⟩
  rw [World.block_upd b bs f (fun hm => by have := hb k hm; omega)]
  exact hx.block k hk
def Value.blk : Value → List Nat
  | .slice (some a) _ _ => [a.block]
  | _ => []
@[go_sem] theorem blk_some (a : Addr) (n c : Nat) : (Value.slice (some a) n c).blk = [a.block] := rfl
@[go_sem] theorem blk_none (n c : Nat) : (Value.slice none n c).blk = [] := rfl
@[go_sem] theorem notin_one {n m : Nat} : (n ∉ [m]) = (n ≠ m) := by simp
@[go_sem] theorem notin_nil {n : Nat} : (n ∉ ([] : List Nat)) = True := by simp
theorem Ex.upd1 {a b : World} (h : Ex a b) {m : Nat} {f : Nat → Obj} (hm : a.heap.size ≤ m) : Ex a (b.upd [m] f) := h.upd fun x hx => by rw [List.mem_singleton.1 hx]; exact hm
def OwnsIn {α : Type} [Rep α] (lo hi : Nat) (w : World) (a : α) (vs : List Value) (bs : List Nat) : Prop :=
  Rep.tree w a vs bs ∧ bs.Nodup ∧ (∀ b ∈ bs, lo ≤ b ∧ b < hi) ∧ ∀ b ∈ bs, ∀ o, w.frozen? ⟨b, o, none⟩ = false
theorem OwnsIn.holds {α : Type} [Rep α] {lo hi : Nat} {w : World} {a : α} {vs : List Value} {bs : List Nat} (h : OwnsIn lo hi w a vs bs) : Holds w a vs := ⟨bs, h.1⟩
theorem OwnsIn.ex {α : Type} [Rep α] {lo hi : Nat} {w w' : World} {a : α} {vs : List Value} {bs : List Nat} (h : OwnsIn lo hi w a vs bs) (hx : Ex w w') : OwnsIn lo hi w' a vs bs :=
  ⟨Rep.stable h.1 fun b hb => hx.block (Rep.lt h.1 b hb), h.2.1, h.2.2.1, fun b hb o => by rw [hx.frozen (p := ⟨b, o, none⟩) (Rep.lt h.1 b hb)]; exact h.2.2.2 b hb o⟩
theorem OwnsIn.upd {α : Type} [Rep α] {lo hi : Nat} {w : World} {a : α} {vs : List Value} {bs cs : List Nat} {f : Nat → Obj} (h : OwnsIn lo hi w a vs bs) (hc : ∀ c ∈ cs, c < lo ∨ hi ≤ c) : OwnsIn lo hi (w.upd cs f) a vs bs := by
  have hn : ∀ b ∈ bs, b ∉ cs := fun b hb hm => by
    have h1 := h.2.2.1 b hb
    have h2 := hc b hm
    omega
  exact ⟨Rep.stable h.1 fun b hb => World.block_upd w cs f (hn b hb), h.2.1, h.2.2.1, fun b hb o => by rw [World.frozen?_upd w cs f b o (hn b hb)]; exact h.2.2.2 b hb o⟩
theorem OwnsIn.tree {α : Type} [Rep α] {lo hi : Nat} {w : World} {a : α} {vs : List Value} {bs : List Nat} (h : OwnsIn lo hi w a vs bs) : Rep.tree w a vs bs := h.1
theorem OwnsIn.nd {α : Type} [Rep α] {lo hi : Nat} {w : World} {a : α} {vs : List Value} {bs : List Nat} (h : OwnsIn lo hi w a vs bs) : bs.Nodup := h.2.1
theorem OwnsIn.rng {α : Type} [Rep α] {lo hi : Nat} {w : World} {a : α} {vs : List Value} {bs : List Nat} (h : OwnsIn lo hi w a vs bs) : ∀ b ∈ bs, lo ≤ b ∧ b < hi := h.2.2.1
theorem OwnsIn.fz {α : Type} [Rep α] {lo hi : Nat} {w : World} {a : α} {vs : List Value} {bs : List Nat} (h : OwnsIn lo hi w a vs bs) : ∀ b ∈ bs, ∀ o, w.frozen? ⟨b, o, none⟩ = false := h.2.2.2
def marks (n : Nat) (k : Int) : List Int := (List.range n).map fun (i : Nat) => k + (i : Int)
end Go
namespace Go.Proofs.YtnikopahkjmneaaGreat
open Go.RowKit
set_option linter.unusedVariables false
end Go.Proofs.YtnikopahkjmneaaGreat
end
section
namespace Go
open Go.RowKit
theorem World.as_upd {w w' : World} (bs : List Nat) (h1 : w'.os = w.os) (h2 : w'.tape = w.tape) (h3 : w'.output = w.output) (hs : w.heap.size ≤ w'.heap.size)
    (hb : ∀ k, k < w.heap.size → k ∉ bs → w'.heap[k]? = w.heap[k]?) : ∃ f g, w' = (w.upd bs f).plus g := by
  refine ⟨fun k => (w'.heap[k]?).getD default, ⟨w'.heap.extract w.heap.size w'.heap.size, w'.drawn⟩, ?_⟩
  have e : w'.heap = (w.upd bs (fun k => (w'.heap[k]?).getD default)).heap ++ w'.heap.extract w.heap.size w'.heap.size := by
    apply Array.ext_getElem?
    intro i
    by_cases hi : i < w.heap.size
    · rw [Array.getElem?_append_left (by simpa using hi)]
      by_cases hm : i ∈ bs
      · rw [World.block_upd_in w bs _ hm hi, Array.getElem?_eq_getElem (by omega)]; simp
      · rw [World.block_upd w bs _ hm, hb i hi hm]
    · rw [Array.getElem?_append_right (by simp; omega), Array.getElem?_extract]
      simp only [World.size_upd]
      split
      · congr 1; omega
      · rw [Array.getElem?_eq_none]; omega
  cases w'
  simp only [World.plus, World.upd] at *
  rw [← e, h1, h2, h3]
def Slot (lo : Nat) (w : World) (E : TypeId) (size : Nat) (v : Value) (n : Nat) (xs : List Value) : Prop :=
  xs.length = n * size ∧ ((v = .slice none 0 0 ∧ n = 0) ∨ ∃ b off cap cur, v = .slice (some ⟨b, off, none⟩) n cap ∧ lo ≤ b ∧ w.heap[b]? = some (.cells cur E (0, 0)) ∧ n ≤ cap ∧ cap ≤ maxLen ∧ off + cap * size ≤ cur.size ∧
    ∀ j, j < n * size → cur[off + j]? = xs[j]?)
theorem Slot.stay {lo : Nat} {w w' : World} {E : TypeId} {size : Nat} {v : Value} {n : Nat} {xs : List Value} (h : Slot lo w E size v n xs) (hb : ∀ b ∈ v.blk, w'.heap[b]? = w.heap[b]?) : Slot lo w' E size v n xs := by
  obtain ⟨h1, h2 | ⟨b, off, cap, cur, rfl, h3, h4, h5⟩⟩ := h
  · exact ⟨h1, .inl h2⟩
  · exact ⟨h1, .inr ⟨b, off, cap, cur, rfl, h3, by rw [hb b (by simp [Value.blk])]; exact h4, h5⟩⟩
theorem Slot.blk_lt {lo : Nat} {w : World} {E : TypeId} {size : Nat} {v : Value} {n : Nat} {xs : List Value} (h : Slot lo w E size v n xs) : ∀ b ∈ v.blk, lo ≤ b ∧ b < w.heap.size := by
  obtain ⟨h1, ⟨rfl, _⟩ | ⟨b, off, cap, cur, rfl, h3, h4, h5⟩⟩ := h
  · intro b hb; cases hb
  · intro c hc; simp [Value.blk] at hc; subst hc; exact ⟨h3, row_lt h4⟩
theorem Slot.ex {lo : Nat} {w w' : World} {E : TypeId} {size : Nat} {v : Value} {n : Nat} {xs : List Value} (h : Slot lo w E size v n xs) (hx : Ex w w') : Slot lo w' E size v n xs :=
  h.stay fun b hb => hx.block (h.blk_lt b hb).2
theorem Slot.plus {lo : Nat} {w : World} {E : TypeId} {size : Nat} {v : Value} {n : Nat} {xs : List Value} (h : Slot lo w E size v n xs) (g : Gr) : Slot lo (w.plus g) E size v n xs := h.ex ((Ex.refl _).plus g)
theorem Slot.alloc {lo : Nat} {w : World} {E : TypeId} {size : Nat} {v : Value} {n : Nat} {xs : List Value} (h : Slot lo w E size v n xs) (o : Obj) : Slot lo (w.alloc o) E size v n xs := h.ex ((Ex.refl _).alloc o)
theorem Slot.drew {lo : Nat} {w : World} {E : TypeId} {size : Nat} {v : Value} {n : Nat} {xs : List Value} (h : Slot lo w E size v n xs) : Slot lo w.drew E size v n xs := h.ex (Ex.refl _).drew
theorem Slot.nil (lo : Nat) (w : World) (E : TypeId) (size : Nat) : Slot lo w E size (.slice none 0 0) 0 [] := ⟨by simp, .inl ⟨rfl, rfl⟩⟩
theorem Slot.form {lo : Nat} {w : World} {E : TypeId} {size : Nat} {v : Value} {n : Nat} {xs : List Value} (h : Slot lo w E size v n xs) : ∃ a cap, v = .slice a n cap ∧ n ≤ cap := by
  obtain ⟨h1, ⟨rfl, rfl⟩ | ⟨b, off, cap, cur, rfl, h3, h4, h5, _⟩⟩ := h
  · exact ⟨_, _, rfl, Nat.le_refl _⟩
  · exact ⟨_, _, rfl, h5⟩
def nicRow (C : Array Value) : Nat → List Value → Array Value
  | _, [] => C
  | o, v :: r => nicRow (C.setIfInBounds o v) (o + 1) r
theorem nicRow_size : ∀ (vs : List Value) (C : Array Value) (o : Nat), (nicRow C o vs).size = C.size
  | [], _, _ => rfl
  | v :: r, C, o => by rw [nicRow, nicRow_size r]; simp
theorem nicRow_lo : ∀ (vs : List Value) (C : Array Value) (o k : Nat), k < o → (nicRow C o vs)[k]? = C[k]?
  | [], _, _, _, _ => rfl
  | v :: r, C, o, k, h => by rw [nicRow, nicRow_lo r _ _ _ (by omega), Array.getElem?_setIfInBounds, if_neg (by omega)]
theorem nicRow_in : ∀ (vs : List Value) (C : Array Value) (o k : Nat), k < vs.length → o + vs.length ≤ C.size → (nicRow C o vs)[o + k]? = vs[k]?
  | [], _, _, _, h, _ => by simp at h
  | v :: r, C, o, 0, _, hs => by
    simp only [List.length_cons] at hs
    rw [nicRow, Nat.add_zero, nicRow_lo r _ _ _ (by omega), Array.getElem?_setIfInBounds]; simp; omega
  | v :: r, C, o, k + 1, h, hs => by
    simp only [List.length_cons] at h hs
    rw [nicRow, show o + (k + 1) = o + 1 + k from by omega, nicRow_in r _ _ _ (by omega) (by simp; omega)]; simp
theorem row_setCells : ∀ (vs : List Value) (w : World) (b o : Nat) (C : Array Value) (E : TypeId) (fr : Nat × Nat), w.heap[b]? = some (.cells C E fr) → (w.setCells b o vs).heap[b]? = some (.cells (nicRow C o vs) E fr)
  | [], _, _, _, _, _, _, h => h
  | v :: r, w, b, o, C, E, fr, h => by rw [World.setCells, nicRow]; exact row_setCells r _ _ _ _ _ _ (row_setCell h o v)
theorem setCells_rest : ∀ (vs : List Value) (w : World) (b o : Nat), (w.setCells b o vs).os = w.os ∧ (w.setCells b o vs).tape = w.tape ∧ (w.setCells b o vs).output = w.output ∧ (w.setCells b o vs).heap.size = w.heap.size ∧ ∀ k, k ≠ b → (w.setCells b o vs).heap[k]? = w.heap[k]?
  | [], _, _, _ => ⟨rfl, rfl, rfl, rfl, fun _ _ => rfl⟩
  | v :: r, w, b, o => by
    obtain ⟨h1, h2, h3, h4, h5⟩ := setCells_rest r (w.setCell ⟨b, o, none⟩ v) b (o + 1)
    exact ⟨h1, h2, h3, by rw [World.setCells, h4]; simp, fun k hk => by rw [World.setCells, h5 k hk]; exact row_setCell_other (p := ⟨b, o, none⟩) hk v⟩
section
variable {P : Program}
theorem run_app (w : World) (t tx ty e : TypeId) (i : TypeInfo) (z : Value) (ht : P.underlying t = some (.slice e)) (hi : P.info? e = some i) (hz : i.zero = some z) (hzs : z.cells.size = i.size)
    (lo : Nat) (v : Value) (n : Nat) (xs : List Value) (hv : Slot lo w e i.size v n xs) (x : Value) (m : Nat) (news : List Value) (hx : Src P i.size tx x m news w)
    (h63 : n + m ≤ maxLen) (hby : (n + m) * i.bytes ≤ 140737488355328) (hlo : lo ≤ w.heap.size) :
    ∃ v' f g, (Builtin.append_ #[t, tx] ty #[v, x]).run P w = .ok v' ((w.upd v.blk f).plus g) ∧ Slot lo ((w.upd v.blk f).plus g) e i.size v' (n + m) (xs ++ news) ∧ (∀ b ∈ v'.blk, b ∈ v.blk ∨ w.heap.size ≤ b) := by
  have key : ∃ v' w', (Builtin.append_ #[t, tx] ty #[v, x]).run P w = .ok v' w' ∧ Slot lo w' e i.size v' (n + m) (xs ++ news) ∧ (∀ b ∈ v'.blk, b ∈ v.blk ∨ w.heap.size ≤ b) ∧
      w'.os = w.os ∧ w'.tape = w.tape ∧ w'.output = w.output ∧ w.heap.size ≤ w'.heap.size ∧ ∀ k, k < w.heap.size → k ∉ v.blk → w'.heap[k]? = w.heap[k]? := by
    obtain ⟨hl, hv⟩ := hv
    have hml : (n + m : Nat) ≤ 9223372036854775807 := by unfold maxLen at h63; omega
    have grow : ∀ (a : Option Addr) (cap : Nat), v = .slice a n cap → (Builtin.firstCells i.size n (.slice a n cap)).run P w.drew = .ok xs.toArray w.drew → cap < n + m →
        ∃ v' w', (Builtin.append_ #[t, tx] ty #[v, x]).run P w = .ok v' w' ∧ Slot lo w' e i.size v' (n + m) (xs ++ news) ∧ (∀ b ∈ v'.blk, b ∈ v.blk ∨ w.heap.size ≤ b) ∧
          w'.os = w.os ∧ w'.tape = w.tape ∧ w'.output = w.output ∧ w.heap.size ≤ w'.heap.size ∧ ∀ k, k < w.heap.size → k ∉ v.blk → w'.heap[k]? = w.heap[k]? := by
      intro a cap hva hf hc
      subst hva
      refine ⟨_, _, run_append_grow_src w t tx ty e i z ht hi hz a n cap xs hf x m news hx hc (by omega) (growslice_fits hc hby), ⟨by rw [List.length_append, hl, hx.newsLen, Nat.add_mul], .inr ⟨_, _, _, _, rfl, by simpa using hlo, row_alloc _ _, grownCap_ge .., grownCap_le_maxLen _ _ _ _ h63, ?_, fun j hj => ?_⟩⟩, fun b hb => ?_, rfl, rfl, rfl, by simp, fun k hk _ => ?_⟩
      · rw [Array.size_append, List.size_toArray, List.length_append, hl, hx.newsLen, size_zeroCells, hzs, ← Nat.add_mul, ← Nat.add_mul, Nat.zero_add]
        have := grownCap_ge w (n + m) cap e
        rw [show n + m + (grownCap w (n + m) cap e - (n + m)) = grownCap w (n + m) cap e from by omega]
        exact Nat.le_refl _
      · rw [Nat.zero_add, Array.getElem?_append_left (by rw [List.size_toArray, List.length_append, hl, hx.newsLen, ← Nat.add_mul]; exact hj)]
        simp
      · simp [Value.blk] at hb; subst hb; exact .inr (Nat.le_refl _)
      · exact Below.heap_alloc w.drew _ _ hk
    rcases hv with ⟨rfl, rfl⟩ | ⟨b, off, cap, cur, rfl, h1, h2, h3, h4, h5, h6⟩
    · have hxs : xs = [] := List.eq_nil_of_length_eq_zero (by simpa using hl)
      subst hxs
      by_cases hm : m = 0
      · subst hm
        have hn : news = [] := List.eq_nil_of_length_eq_zero (by simpa using hx.newsLen)
        subst hn
        refine ⟨.slice none 0 0, w, ?_, ⟨by simp, .inl ⟨rfl, rfl⟩⟩, fun b hb => (by cases hb), rfl, rfl, rfl, Nat.le_refl _, fun _ _ _ => rfl⟩
        rcases hx.kind with ⟨e', hk⟩ | hk <;> simp [Builtin.append_, run_underlying ht, run_underlying hk, sizeOf, typeInfo, hi, hx.len, hx.cells]
      · exact grow none 0 rfl (run_firstCells_none w.drew i.size 0 0 0) (by omega)
    · by_cases hroom : n + m ≤ cap
      · have hmul : (n + m) * i.size ≤ cap * i.size := Nat.mul_le_mul_right _ hroom
        rw [Nat.add_mul] at hmul
        obtain ⟨r1, r2, r3, r4, r5⟩ := setCells_rest news w b (off + n * i.size)
        refine ⟨_, _, run_append_room_src w t tx ty e i ht hi b off n cap x m news hx hroom (fun j hj => ?_) (fun j hj => frozen_row h2 _), ⟨by rw [List.length_append, hl, hx.newsLen, Nat.add_mul], .inr ⟨b, off, cap, _, rfl, h1, row_setCells _ _ _ _ _ _ _ h2, hroom, h4, by rw [nicRow_size]; exact h5, fun j hj => ?_⟩⟩, fun c hc => .inl hc, r1, r2, r3, Nat.le_of_eq r4.symm, fun k _ hk => r5 k ?_⟩
        · rw [cell_row h2, Array.getElem?_eq_getElem (by rw [hx.newsLen] at hj; omega)]; rfl
        · rw [Nat.add_mul] at hj
          by_cases hjn : j < n * i.size
          · rw [nicRow_lo _ _ _ _ (by omega), h6 j hjn, List.getElem?_append_left (by omega)]
          · rw [List.getElem?_append_right (by omega), hl, show off + j = off + n * i.size + (j - n * i.size) from by omega, nicRow_in _ _ _ _ (by rw [hx.newsLen]; omega) (by rw [hx.newsLen]; omega)]
        · intro e; subst e; exact hk (by simp [Value.blk])
      · refine grow _ cap rfl (run_firstCells_some w.drew i.size n _ n cap xs hl fun j u hj => ?_) (by omega)
        have hjl : j < xs.length := by
          rcases Nat.lt_or_ge j xs.length with h | h
          · exact h
          · rw [List.getElem?_eq_none h] at hj; cases hj
        have hadd : (⟨b, off, none⟩ : Addr).add j = ⟨b, off + j, none⟩ := by unfold Addr.add; split <;> simp_all
        rw [hadd, World.cell?_drew, cell_row h2, h6 j (by omega), hj]
  obtain ⟨v', w', h1, h2, h3, h4, h5, h6, h7, h8⟩ := key
  obtain ⟨f, g, rfl⟩ := World.as_upd v.blk h4 h5 h6 h7 h8
  exact ⟨v', f, g, h1, h2, h3⟩
theorem wp_app {w : World} {o : Oper} {a : Act} {K : Act → World → Prop} {Q : Exit → Act → World → Prop} (s y : Operand) (t tx : TypeId)
    (ho : o.op = .call { callee := .builtin .append, args := #[s, y], argTypes := #[t, tx] }) (e : TypeId) (z : Value) (size bytes : Nat)
    (ht : P.underlying t = some (.slice e)) (hinfo : (P.info? e).map (fun i => (i.zero, i.size, i.bytes)) = some (some z, size, bytes)) (hzs : z.cells.size = size) (lo : Nat) (v : Value) (n : Nat) (xs : List Value) (hs : a.eval s = v) (hv : Slot lo w e size v n xs)
    (x : Value) (m : Nat) (news : List Value) (hy : a.eval y = x) (hx : Src P size tx x m news w) (h63 : n + m ≤ maxLen) (hby : (n + m) * bytes ≤ 140737488355328) (hlo : lo ≤ w.heap.size)
    (h : ∀ v' f g, Slot lo ((w.upd v.blk f).plus g) e size v' (n + m) (xs ++ news) → (∀ b ∈ v'.blk, b ∈ v.blk ∨ w.heap.size ≤ b) → K (a.put o.dst v') ((w.upd v.blk f).plus g)) : o.wp P a w K Q := by
  obtain ⟨i, hi, hzz⟩ := Option.map_eq_some_iff.1 hinfo
  simp only [Prod.mk.injEq] at hzz
  obtain ⟨hz, rfl, rfl⟩ := hzz
  obtain ⟨v', f, g, hr, h2, h3⟩ := run_app w t tx o.type e i z ht hi hz hzs lo v n xs hv x m news hx h63 hby hlo
  unfold Oper.wp execOp
  simp only [ho, resolve, invoke, builtin, Sem.run_bind, Sem.run_pure, Result.andThen_ok, List.map_toArray, List.map_cons, List.map_nil, hs, hy, hr]
  exact h v' f g h2 h3
theorem Holds.src {α : Type} [Rep α] {w : World} {xs : List α} {a : Option Addr} {n cap : Nat} (h : Holds w xs [.slice a n cap]) {tx e' : TypeId} (hk : P.underlying tx = some (.slice e')) (cells : α → List Value)
    (hc : ∀ x ∈ xs, ∀ vs, Holds w x vs → vs = cells x) (h1 : ∀ x ∈ xs, ∀ u ∈ cells x, u.oneCell' = true) : Src P (Rep.size α) tx (.slice a n cap) n (xs.flatMap cells) w := by
  obtain ⟨a', cap', hv, hn, _, hx⟩ := h.slice
  simp only [List.cons.injEq, Value.slice.injEq, and_true] at hv
  obtain ⟨rfl, rfl, rfl⟩ := hv
  have hlen : ∀ l : List α, (∀ x ∈ l, (cells x).length = Rep.size α) → (l.flatMap cells).length = l.length * Rep.size α := by
    intro l hl
    induction l with
    | nil => simp
    | cons y l ih => rw [List.flatMap_cons, List.length_append, hl y (List.mem_cons_self ..), ih (fun x hx => hl x (List.mem_cons_of_mem _ hx)), List.length_cons, Nat.succ_mul, Nat.add_comm]
  have hcl : ∀ x ∈ xs, (cells x).length = Rep.size α := by
    intro x hm
    obtain ⟨i, hi, rfl⟩ := List.getElem_of_mem hm
    obtain ⟨b, off, ts, _, ht, _⟩ := hx i hi
    rw [← hc _ hm _ ht, ht.len]
  have hone : ∀ u ∈ xs.flatMap cells, u.oneCell' = true := by
    intro u hu
    obtain ⟨x, hm, hu⟩ := List.mem_flatMap.1 hu
    exact h1 x hm u hu
  have hget : ∀ (l : List α), (∀ x ∈ l, (cells x).length = Rep.size α) → ∀ i (hi : i < l.length) j, j < Rep.size α → (l.flatMap cells)[i * Rep.size α + j]? = (cells l[i])[j]? := by
    intro l
    induction l with
    | nil => intro _ i hi; simp at hi
    | cons y l ih =>
      intro hl i hi j hj
      have hy := hl y (List.mem_cons_self ..)
      cases i with
      | zero => rw [List.flatMap_cons, Nat.zero_mul, Nat.zero_add, List.getElem?_append_left (by omega)]; rfl
      | succ i =>
        rw [List.flatMap_cons, List.getElem?_append_right (by rw [hy, Nat.succ_mul]; omega), hy, show (i + 1) * Rep.size α + j - Rep.size α = i * Rep.size α + j from by rw [Nat.succ_mul]; omega]
        exact ih (fun x hx => hl x (List.mem_cons_of_mem _ hx)) i (by simpa using hi) j hj
  have hpos := Rep.pos (α := α)
  cases a with
  | none =>
    have h0 : xs = [] := by
      cases xs with
      | nil => rfl
      | cons y l => obtain ⟨b, off, ts, ha, _⟩ := hx 0 (by simp); cases ha
    subst h0
    exact Src.ofNil w hk cap
  | some ad =>
    refine Src.ofSlice w hk ad xs.length cap _ (hlen xs hcl) (fun j u hj => ?_) hone
    have hjl : j < (xs.flatMap cells).length := by
      rcases Nat.lt_or_ge j (xs.flatMap cells).length with h | h
      · exact h
      · rw [List.getElem?_eq_none h] at hj; cases hj
    rw [hlen xs hcl] at hjl
    have hi : j / Rep.size α < xs.length := by rw [Nat.div_lt_iff_lt_mul hpos]; exact hjl
    have hr : j % Rep.size α < Rep.size α := Nat.mod_lt _ hpos
    have hjd : j / Rep.size α * Rep.size α + j % Rep.size α = j := by rw [Nat.mul_comm]; exact Nat.div_add_mod ..
    obtain ⟨b, off, ts, ha, ht, hcc⟩ := hx _ hi
    simp only [Option.some.injEq] at ha
    subst ha
    have hadd : (⟨b, off, none⟩ : Addr).add j = ⟨b, off + j, none⟩ := by unfold Addr.add; split <;> simp_all
    have h2 := hcc _ hr
    have h3 := hget xs hcl _ hi _ hr
    rw [Nat.add_assoc, hjd] at h2
    rw [hjd, hj] at h3
    rw [hadd, h2, hc _ (List.getElem_mem hi) _ ht, ← h3]
theorem Src.lone {w : World} {tx e' T : TypeId} {c : Nat} (hk : P.underlying tx = some (.slice e')) (cs : Array Value) (hc : ∀ u ∈ cs.toList, u.oneCell' = true) (b : Nat) (hb : w.heap[b]? = some (.cells cs T (0, 0))) :
    Src P cs.size tx (.slice (some ⟨b, 0, none⟩) 1 c) 1 cs.toList w :=
  Src.ofSlice w hk _ _ _ _ (by simp) (fun j u hj => by
    have hadd : (⟨b, 0, none⟩ : Addr).add j = ⟨b, j, none⟩ := by unfold Addr.add; split <;> simp_all
    rw [hadd, cell_row hb]; simpa using hj) hc
end
end Go
end
section
namespace Go
open Go.RowKit
set_option linter.unusedVariables false
class Flat (α : Type) [Rep α] where
  cells : α → List Value
  ok : α → Prop
  tree : ∀ {w : World} {a : α} {vs : List Value} {bs : List Nat}, Rep.tree w a vs bs ↔ vs = cells a ∧ bs = [] ∧ ok a
  len : ∀ a : α, (cells a).length = Rep.size α
  one : ∀ (a : α), ∀ u ∈ cells a, u.oneCell' = true
instance : Flat Int where
  cells n := [.int .i64 n]
  ok := i64ok
  tree := Iff.rfl
  len _ := rfl
  one _ u hu := by simp at hu; subst hu; rfl
instance : Flat Bool where
  cells n := [.bool n]
  ok _ := True
  tree := by intro _ _ _ _; simp [Rep.tree]
  len _ := rfl
  one _ u hu := by simp at hu; subst hu; rfl
instance : Flat ByteArray where
  cells n := [.string n]
  ok s := s.size ≤ maxLen
  tree := Iff.rfl
  len _ := rfl
  one _ u hu := by simp at hu; subst hu; rfl
instance : Flat UInt8 where
  cells n := [.int .u8 n.toNat]
  ok _ := True
  tree := by intro _ _ _ _; simp [Rep.tree]
  len _ := rfl
  one _ u hu := by simp at hu; subst hu; rfl
instance {α β : Type} [Rep α] [Rep β] [Flat α] [Flat β] : Flat (α × β) where
  cells x := Flat.cells x.1 ++ Flat.cells x.2
  ok x := Flat.ok x.1 ∧ Flat.ok x.2
  tree := by
    intro w x vs bs
    constructor
    · rintro ⟨v1, v2, b1, b2, rfl, rfl, h1, h2⟩
      obtain ⟨rfl, rfl, o1⟩ := Flat.tree.1 h1
      obtain ⟨rfl, rfl, o2⟩ := Flat.tree.1 h2
      exact ⟨rfl, rfl, o1, o2⟩
    · rintro ⟨rfl, rfl, o1, o2⟩
      exact ⟨_, _, [], [], rfl, rfl, Flat.tree.2 ⟨rfl, rfl, o1⟩, Flat.tree.2 ⟨rfl, rfl, o2⟩⟩
  len x := by rw [List.length_append, Flat.len, Flat.len]; rfl
  one x u hu := by
    rcases List.mem_append.1 hu with h | h
    · exact Flat.one _ u h
    · exact Flat.one _ u h
section
variable {α : Type} [Rep α] [Flat α]
theorem Holds.flat1 {w : World} {a : α} {vs : List Value} (h : Holds w a vs) : vs = Flat.cells a ∧ Flat.ok a := by
  obtain ⟨bs, h⟩ := h
  obtain ⟨h1, _, h2⟩ := Flat.tree.1 h
  exact ⟨h1, h2⟩
theorem Holds.flat {w : World} {xs : List α} {vs : List Value} (h : Holds w xs vs) : ∃ a cap, vs = [.slice a xs.length cap] ∧ xs.length ≤ cap ∧ cap ≤ maxLen ∧
    (∀ i (hi : i < xs.length), ∃ b off, a = some ⟨b, off, none⟩ ∧ ∀ j, j < Rep.size α → w.cell? ⟨b, off + i * Rep.size α + j, none⟩ = (Flat.cells (xs[i]'hi))[j]?) ∧ ∀ x ∈ xs, Flat.ok x := by
  obtain ⟨a, cap, rfl, h1, h2, h3⟩ := h.slice
  refine ⟨a, cap, rfl, h1, h2, fun i hi => ?_, fun x hx => ?_⟩
  · obtain ⟨b, off, ts, ha, ht, hc⟩ := h3 i hi
    obtain ⟨rfl, _⟩ := ht.flat1
    exact ⟨b, off, ha, hc⟩
  · obtain ⟨i, hi, rfl⟩ := List.getElem_of_mem hx
    obtain ⟨b, off, ts, ha, ht, hc⟩ := h3 i hi
    exact ht.flat1.2
theorem flat_len : ∀ xs : List α, (xs.flatMap Flat.cells).length = xs.length * Rep.size α
  | [] => by simp
  | x :: xs => by rw [List.flatMap_cons, List.length_append, Flat.len, flat_len xs, List.length_cons, Nat.succ_mul, Nat.add_comm]
theorem flat_get : ∀ (xs : List α) (i : Nat) (hi : i < xs.length) (j : Nat), j < Rep.size α → (xs.flatMap Flat.cells)[i * Rep.size α + j]? = (Flat.cells xs[i])[j]?
  | x :: xs, 0, hi, j, hj => by rw [List.flatMap_cons, Nat.zero_mul, Nat.zero_add, List.getElem?_append_left (by rw [Flat.len]; omega)]; rfl
  | x :: xs, i + 1, hi, j, hj => by
    rw [List.flatMap_cons, List.getElem?_append_right (by rw [Flat.len, Nat.succ_mul]; omega), Flat.len, show (i + 1) * Rep.size α + j - Rep.size α = i * Rep.size α + j from by rw [Nat.succ_mul]; omega]
    exact flat_get xs i (by simpa using hi) j hj
theorem Slot.flat {lo : Nat} {w : World} {E : TypeId} {v : Value} {n : Nat} {xs : List α} (h : Slot lo w E (Rep.size α) v n (xs.flatMap Flat.cells)) (hok : ∀ x ∈ xs, Flat.ok x) : n = xs.length ∧ Owns lo w xs [v] := by
  obtain ⟨h1, h2⟩ := h
  have hpos := Rep.pos (α := α)
  rw [flat_len] at h1
  obtain rfl : n = xs.length := (Nat.eq_of_mul_eq_mul_right hpos h1).symm
  refine ⟨rfl, ?_⟩
  rcases h2 with ⟨rfl, h0⟩ | ⟨b, off, cap, cur, rfl, h3, h4, h5, h6, h7, h8⟩
  · have : xs = [] := List.eq_nil_of_length_eq_zero h0
    subst this
    exact ⟨[], ⟨_, _, rfl, Nat.le_refl _, Nat.zero_le _, .inl ⟨rfl, rfl⟩⟩, List.nodup_nil, fun b hb => by cases hb⟩
  · by_cases hc : cap = 0
    · subst hc
      exact ⟨[], ⟨_, _, rfl, h5, h6, .inl ⟨rfl, rfl⟩⟩, List.nodup_nil, fun b hb => by cases hb⟩
    · haveI : Inhabited (List Value) := ⟨[]⟩
      refine ⟨[b], ⟨_, _, rfl, h5, h6, .inr ⟨b, off, cur, E, (0, 0), fun i => if h : i < xs.length then Flat.cells xs[i] else [], fun _ => [], rfl, by omega, h4, h7, by simp, fun i hi => ⟨?_, fun j hj => ?_⟩⟩⟩, by simp, fun c hc' => ?_⟩
      · simp only [dif_pos hi]; exact Flat.tree.2 ⟨rfl, rfl, hok _ (List.getElem_mem hi)⟩
      · simp only [dif_pos hi]
        rw [← flat_get xs i hi j hj, Nat.add_assoc]
        refine h8 _ ?_
        have := Nat.mul_le_mul_right (Rep.size α) (show i + 1 ≤ xs.length from hi)
        rw [Nat.succ_mul] at this
        omega
      · simp at hc'; subst hc'; exact ⟨h3, fun o => frozen_row h4 o⟩
end
theorem flatMap_same' {α β : Type} {f g : α → List β} : ∀ l : List α, (∀ x ∈ l, f x = g x) → l.flatMap f = l.flatMap g
  | [], _ => rfl
  | x :: l, h => by rw [List.flatMap_cons, List.flatMap_cons, h x (List.mem_cons_self ..), flatMap_same' l fun y hy => h y (List.mem_cons_of_mem _ hy)]
def OwnL {α : Type} [Rep α] (lo : Nat) (w : World) (E : TypeId) (xs : List α) (v : Value) (vs : List Value) (bs : List Nat) : Prop :=
  Slot lo w E 1 v xs.length vs ∧ ∃ ds : Nat → List Nat, (∀ i (hi : i < xs.length), ∃ u, vs[i]? = some u ∧ Rep.tree w xs[i] [u] (ds i)) ∧ bs = v.blk ++ (List.range xs.length).flatMap ds ∧ bs.Nodup ∧
    ∀ i, i < xs.length → ∀ b ∈ ds i, lo ≤ b ∧ b < w.heap.size ∧ ∀ o, w.frozen? ⟨b, o, none⟩ = false
section
variable {α : Type} [Rep α]
theorem OwnL.slot {lo : Nat} {w : World} {E : TypeId} {xs : List α} {v : Value} {vs : List Value} {bs : List Nat} (h : OwnL lo w E xs v vs bs) : Slot lo w E 1 v xs.length vs := h.1
theorem blk_nodup (v : Value) : v.blk.Nodup := by
  unfold Value.blk; split <;> simp
theorem OwnL.rng {lo : Nat} {w : World} {E : TypeId} {xs : List α} {v : Value} {vs : List Value} {bs : List Nat} (h : OwnL lo w E xs v vs bs) : ∀ b ∈ bs, lo ≤ b ∧ b < w.heap.size := by
  obtain ⟨hs, ds, h1, rfl, h2, h3⟩ := h
  intro b hb
  rcases List.mem_append.1 hb with hb | hb
  · exact hs.blk_lt b hb
  · obtain ⟨i, hi, hb⟩ := List.mem_flatMap.1 hb
    have := h3 i (List.mem_range.1 hi) b hb
    exact ⟨this.1, this.2.1⟩
theorem OwnL.blk {lo : Nat} {w : World} {E : TypeId} {xs : List α} {v : Value} {vs : List Value} {bs : List Nat} (h : OwnL lo w E xs v vs bs) : ∀ b ∈ v.blk, b ∈ bs := by
  obtain ⟨hs, ds, h1, rfl, h2, h3⟩ := h
  exact fun b hb => List.mem_append_left _ hb
theorem OwnL.stay {lo : Nat} {w w' : World} {E : TypeId} {xs : List α} {v : Value} {vs : List Value} {bs : List Nat} (h : OwnL lo w E xs v vs bs) (hs : w.heap.size ≤ w'.heap.size) (hb : ∀ b ∈ bs, w'.heap[b]? = w.heap[b]?) : OwnL lo w' E xs v vs bs := by
  obtain ⟨hs', ds, h1, rfl, h2, h3⟩ := h
  have hin : ∀ i, i < xs.length → ∀ b ∈ ds i, w'.heap[b]? = w.heap[b]? := fun i hi b hm => hb b (List.mem_append_right _ (List.mem_flatMap.2 ⟨i, List.mem_range.2 hi, hm⟩))
  refine ⟨hs'.stay fun b hm => hb b (List.mem_append_left _ hm), ds, fun i hi => ?_, rfl, h2, fun i hi b hm => ?_⟩
  · obtain ⟨u, hu, ht⟩ := h1 i hi
    exact ⟨u, hu, Rep.stable ht (hin i hi)⟩
  · obtain ⟨k1, k2, k3⟩ := h3 i hi b hm
    exact ⟨k1, Nat.lt_of_lt_of_le k2 hs, fun o => by rw [World.frozen?_of_block (w := w) (hin i hi b hm)]; exact k3 o⟩
theorem OwnL.ex {lo : Nat} {w w' : World} {E : TypeId} {xs : List α} {v : Value} {vs : List Value} {bs : List Nat} (h : OwnL lo w E xs v vs bs) (hx : Ex w w') : OwnL lo w' E xs v vs bs :=
  h.stay hx.size fun b hb => hx.block (h.rng b hb).2
theorem OwnL.plus {lo : Nat} {w : World} {E : TypeId} {xs : List α} {v : Value} {vs : List Value} {bs : List Nat} (h : OwnL lo w E xs v vs bs) (g : Gr) : OwnL lo (w.plus g) E xs v vs bs := h.ex ((Ex.refl _).plus g)
theorem OwnL.alloc {lo : Nat} {w : World} {E : TypeId} {xs : List α} {v : Value} {vs : List Value} {bs : List Nat} (h : OwnL lo w E xs v vs bs) (o : Obj) : OwnL lo (w.alloc o) E xs v vs bs := h.ex ((Ex.refl _).alloc o)
theorem OwnL.drew {lo : Nat} {w : World} {E : TypeId} {xs : List α} {v : Value} {vs : List Value} {bs : List Nat} (h : OwnL lo w E xs v vs bs) : OwnL lo w.drew E xs v vs bs := h.ex (Ex.refl _).drew
theorem OwnL.app {lo : Nat} {w0 w w' : World} {E : TypeId} {xs : List α} {v v' : Value} {vs : List Value} {bs0 : List Nat} {y : α} {u : Value} (h : OwnL lo w0 E xs v vs bs0) (hx : Ex w0 w) (hlo : lo ≤ w0.heap.size)
    (ho : Owns w0.heap.size w y [u]) (hs : Slot lo w' E 1 v' (xs.length + 1) (vs ++ [u])) (hsz : w.heap.size ≤ w'.heap.size) (hv : ∀ b ∈ v'.blk, b ∈ v.blk ∨ w.heap.size ≤ b)
    (hw : ∀ b, b < w.heap.size → b ∉ v.blk → w'.heap[b]? = w.heap[b]?) : ∃ bs, OwnL lo w' E (xs ++ [y]) v' (vs ++ [u]) bs ∧ ∀ b ∈ bs, b ∈ bs0 ∨ w0.heap.size ≤ b := by
  obtain ⟨hs0, ds, h1, rfl, h2, h3⟩ := h
  obtain ⟨bs, t, nd, f⟩ := ho
  have hlen : vs.length = xs.length := by simpa using hs0.1
  have hbl := hs0.blk_lt
  rw [List.nodup_append] at h2
  obtain ⟨n1, n2, n3⟩ := h2
  have hds : ∀ i, i < xs.length → ∀ b ∈ ds i, b ∉ v.blk := fun i hi b hb hm => n3 b hm b (List.mem_flatMap.2 ⟨i, List.mem_range.2 hi, hb⟩) rfl
  have hbs : ∀ b ∈ bs, b ∉ v.blk := fun b hb hm => by have := (f b hb).1; have := (hbl b hm).2; omega
  have hsz0 := hx.size
  have e1 : (List.range (xs ++ [y]).length).flatMap (fun i => if i = xs.length then bs else ds i) = (List.range xs.length).flatMap ds ++ bs := by
    rw [List.length_append, List.length_singleton, List.range_succ, List.flatMap_append, flatMap_same' _ (g := ds) fun j hj => by rw [if_neg (by have := List.mem_range.1 hj; omega)]]
    simp
  refine ⟨v'.blk ++ ((List.range xs.length).flatMap ds ++ bs), ⟨by simpa using hs, fun i => if i = xs.length then bs else ds i, fun i hi => ?_, by rw [e1], ?_, fun i hi b hb => ?_⟩, fun b hb => ?_⟩
  · by_cases e : i = xs.length
    · subst e
      refine ⟨u, by rw [List.getElem?_append_right (by omega)]; simp [hlen], ?_⟩
      simp only [if_true, List.getElem_append_right (Nat.le_refl _), Nat.sub_self, List.getElem_cons_zero]
      exact Rep.stable t fun b hb => hw b (Rep.lt t b hb) (hbs b hb)
    · have hi' : i < xs.length := by simp at hi; omega
      obtain ⟨u', hu, ht⟩ := h1 i hi'
      refine ⟨u', by rw [List.getElem?_append_left (by omega)]; exact hu, ?_⟩
      simp only [if_neg e, List.getElem_append_left hi']
      refine Rep.stable ht fun b hb => ?_
      rw [hw b (Nat.lt_of_lt_of_le (h3 i hi' b hb).2.1 hsz0) (hds i hi' b hb)]
      exact hx.block (h3 i hi' b hb).2.1
  · rw [List.nodup_append]
    refine ⟨blk_nodup _, ?_, fun a ha c hc e => ?_⟩
    · rw [List.nodup_append]
      refine ⟨n2, nd, fun a ha c hc e => ?_⟩
      subst e
      obtain ⟨j, hj, ha⟩ := List.mem_flatMap.1 ha
      have := (f a hc).1
      have := (h3 j (List.mem_range.1 hj) a ha).2.1
      omega
    · subst e
      have key : a ∉ v.blk ∧ a < w.heap.size := by
        rcases List.mem_append.1 hc with hc | hc
        · obtain ⟨j, hj, hc⟩ := List.mem_flatMap.1 hc
          have := h3 j (List.mem_range.1 hj) a hc
          exact ⟨hds j (List.mem_range.1 hj) a hc, by omega⟩
        · exact ⟨hbs a hc, Rep.lt t a hc⟩
      rcases hv a ha with h | h
      · exact key.1 h
      · omega
  · by_cases e : i = xs.length
    · simp only [e, if_true] at hb
      have hf := f b hb
      have hl := Rep.lt t b hb
      exact ⟨by omega, by omega, fun o => by rw [World.frozen?_of_block (w := w) (hw b hl (hbs b hb))]; exact hf.2 o⟩
    · simp only [if_neg e] at hb
      have hi' : i < xs.length := by simp at hi; omega
      obtain ⟨k1, k2, k3⟩ := h3 i hi' b hb
      exact ⟨k1, by omega, fun o => by rw [World.frozen?_of_block (w := w0) ((hw b (by omega) (hds i hi' b hb)).trans (hx.block k2))]; exact k3 o⟩
  · rcases List.mem_append.1 hb with hb | hb
    · rcases hv b hb with h | h
      · exact .inl (List.mem_append_left _ h)
      · exact .inr (by omega)
    · rcases List.mem_append.1 hb with hb | hb
      · exact .inl (List.mem_append_right _ hb)
      · exact .inr (f b hb).1
theorem OwnL.owns {lo : Nat} {w : World} {E : TypeId} {xs : List α} {v : Value} {vs : List Value} {bs : List Nat} (h : OwnL lo w E xs v vs bs) (hsz : Rep.size α = 1) : Owns lo w xs [v] := by
  obtain ⟨⟨h1, h2⟩, ds, h3, rfl, h4, h5⟩ := h
  rcases h2 with ⟨rfl, h0⟩ | ⟨b, off, cap, cur, rfl, k3, k4, k5, k6, k7, k8⟩
  · have : xs = [] := List.eq_nil_of_length_eq_zero h0
    subst this
    exact ⟨[], ⟨_, _, rfl, Nat.le_refl _, Nat.zero_le _, .inl ⟨rfl, rfl⟩⟩, List.nodup_nil, fun b hb => by cases hb⟩
  · by_cases hc : cap = 0
    · subst hc
      exact ⟨[], ⟨_, _, rfl, k5, k6, .inl ⟨rfl, rfl⟩⟩, List.nodup_nil, fun b hb => by cases hb⟩
    · refine ⟨b :: (List.range xs.length).flatMap ds, ⟨_, _, rfl, k5, k6, .inr ⟨b, off, cur, E, (0, 0), fun i => [vs.getD i undef], ds, rfl, by omega, k4, by rw [hsz]; exact k7, rfl, fun i hi => ?_⟩⟩, by simpa [Value.blk] using h4, fun c hc' => ?_⟩
      · obtain ⟨u, hu, ht⟩ := h3 i hi
        have hg : vs.getD i undef = u := by simp [List.getD, hu]
        simp only [hg]
        refine ⟨ht, fun j hj => ?_⟩
        rw [hsz] at hj ⊢
        obtain rfl : j = 0 := by omega
        rw [Nat.mul_one, Nat.add_zero, k8 i (by omega), hu]; rfl
      · rcases List.mem_cons.1 hc' with rfl | hc'
        · exact ⟨k3, fun o => frozen_row k4 o⟩
        · obtain ⟨i, hi, hc'⟩ := List.mem_flatMap.1 hc'
          have := h5 i (List.mem_range.1 hi) c hc'
          exact ⟨this.1, this.2.2⟩
end
end Go
end
section
namespace Go
open Go.RowKit
set_option linter.unusedVariables false
structure Asn where
  P : World → (Nat → Prop) → Prop
  stable : ∀ {w w' : World} {F : Nat → Prop}, P w F → (∀ b, F b → w'.heap[b]? = w.heap[b]?) → P w' F
  lt : ∀ {w : World} {F : Nat → Prop}, P w F → ∀ b, F b → b < w.heap.size
def SepL (w : World) : List Asn → (Nat → Prop) → Prop
  | [], F => ∀ b, ¬ F b
  | A :: Is, F => ∃ F1 F2, A.P w F1 ∧ SepL w Is F2 ∧ (∀ b, F1 b → ¬ F2 b) ∧ ∀ b, F b ↔ (F1 b ∨ F2 b)
theorem SepL.stable {w w' : World} : ∀ {Is : List Asn} {F : Nat → Prop}, SepL w Is F → (∀ b, F b → w'.heap[b]? = w.heap[b]?) → SepL w' Is F
  | [], _, h, _ => h
  | A :: Is, F, ⟨F1, F2, h1, h2, h3, h4⟩, hs => ⟨F1, F2, A.stable h1 fun b hb => hs b ((h4 b).2 (.inl hb)), SepL.stable h2 fun b hb => hs b ((h4 b).2 (.inr hb)), h3, h4⟩
theorem SepL.lt {w : World} : ∀ {Is : List Asn} {F : Nat → Prop}, SepL w Is F → ∀ b, F b → b < w.heap.size
  | [], _, h, b, hb => (h b hb).elim
  | A :: Is, F, ⟨F1, F2, h1, h2, h3, h4⟩, b, hb => ((h4 b).1 hb).elim (fun h => A.lt h1 b h) fun h => SepL.lt h2 b h
def St (w0 w : World) (Is : List Asn) : Prop := Ex w0 w ∧ ∃ F, SepL w Is F ∧ ∀ b, F b → w0.heap.size ≤ b
inductive Take : List Asn → Asn → List Asn → Prop
  | head {A : Asn} {l : List Asn} : Take (A :: l) A l
  | tail {A B : Asn} {l k : List Asn} : Take l A k → Take (B :: l) A (B :: k)
inductive Arr : List Asn → List Asn → Prop
  | nil {l : List Asn} : Arr l []
  | cons {A : Asn} {l k m : List Asn} : Take l A k → Arr k m → Arr l (A :: m)
theorem Take.sep {w : World} {l : List Asn} {A : Asn} {k : List Asn} (t : Take l A k) : ∀ {F : Nat → Prop}, SepL w l F → SepL w (A :: k) F := by
  induction t with
  | head => exact fun h => h
  | tail t ih =>
    rintro F ⟨F1, F2, h1, h2, h3, h4⟩
    obtain ⟨G1, G2, g1, g2, g3, g4⟩ := ih h2
    refine ⟨G1, fun b => F1 b ∨ G2 b, g1, ⟨F1, G2, h1, g2, fun b hb hg => h3 b hb ((g4 b).2 (.inr hg)), fun b => Iff.rfl⟩, fun b hb hg => ?_, fun b => ?_⟩
    · rcases hg with hg | hg
      · exact h3 b hg ((g4 b).2 (.inl hb))
      · exact g3 b hb hg
    · rw [h4, g4]
      constructor
      · rintro (h | h | h)
        · exact .inr (.inl h)
        · exact .inl h
        · exact .inr (.inr h)
      · rintro (h | h | h)
        · exact .inr (.inl h)
        · exact .inl h
        · exact .inr (.inr h)
theorem Arr.sep {w : World} {l m : List Asn} (a : Arr l m) : ∀ {F : Nat → Prop}, SepL w l F → ∃ G, SepL w m G ∧ ∀ b, G b → F b := by
  induction a with
  | nil => exact fun h => ⟨fun _ => False, fun _ h => h, fun _ h => h.elim⟩
  | cons t _ ih =>
    intro F h
    obtain ⟨F1, F2, h1, h2, h3, h4⟩ := t.sep h
    obtain ⟨G, g1, g2⟩ := ih h2
    refine ⟨fun b => F1 b ∨ G b, ⟨F1, G, h1, g1, fun b hb hg => h3 b hb (g2 b hg), fun b => Iff.rfl⟩, fun b hb => (h4 b).2 ?_⟩
    rcases hb with hb | hb
    · exact .inl hb
    · exact .inr (g2 b hb)
section
variable {w0 w w' : World} {Is Js : List Asn} {A A' : Asn}
theorem St.ex (h : St w0 w Is) : Ex w0 w := h.1
theorem St.start (w : World) : St w w [] := ⟨Ex.refl w, fun _ => False, fun _ h => h, fun _ h => h.elim⟩
theorem St.grow (h : St w0 w Is) (hx : Ex w w') : St w0 w' Is := by
  obtain ⟨h1, F, h2, h3⟩ := h
  exact ⟨h1.trans hx, F, h2.stable fun b hb => hx.block (h2.lt b hb), h3⟩
theorem St.drew (h : St w0 w Is) : St w0 w.drew Is := h.grow (Ex.refl w).drew
theorem St.plus (h : St w0 w Is) (g : Gr) : St w0 (w.plus g) Is := h.grow ((Ex.refl w).plus g)
theorem St.arr (h : St w0 w Is) (a : Arr Is Js) : St w0 w Js := by
  obtain ⟨h1, F, h2, h3⟩ := h
  obtain ⟨G, g1, g2⟩ := a.sep h2
  exact ⟨h1, G, g1, fun b hb => h3 b (g2 b hb)⟩
theorem St.take (h : St w0 w Is) (t : Take Is A Js) : St w0 w (A :: Js) := by
  obtain ⟨h1, F, h2, h3⟩ := h
  exact ⟨h1, F, t.sep h2, h3⟩
theorem St.add (h : St w0 w Is) (hx : Ex w w') {F : Nat → Prop} (hA : A.P w' F) (hF : ∀ b, F b → w.heap.size ≤ b) : St w0 w' (A :: Is) := by
  obtain ⟨h1, G, h2, h3⟩ := h
  refine ⟨h1.trans hx, fun b => F b ∨ G b, ⟨F, G, hA, h2.stable fun b hb => hx.block (h2.lt b hb), fun b hb hg => by have := hF b hb; have := h2.lt b hg; omega, fun b => Iff.rfl⟩, fun b hb => ?_⟩
  rcases hb with hb | hb
  · have := hF b hb; have := h1.size; omega
  · exact h3 b hb
theorem St.head (h : St w0 w (A :: Is)) : ∃ F, A.P w F := by
  obtain ⟨h1, F, ⟨F1, F2, h2, _⟩, h3⟩ := h
  exact ⟨F1, h2⟩
theorem St.get (h : St w0 w Is) (t : Take Is A Js) : ∃ F, A.P w F := (h.take t).head
theorem St.turn (h : St w0 w (A :: Is)) (ho : w'.os = w.os) (ht : w'.tape = w.tape) (hp : w'.output = w.output) (hs : w.heap.size ≤ w'.heap.size)
    (step : ∀ F, A.P w F → (∀ b, b < w.heap.size → ¬ F b → w'.heap[b]? = w.heap[b]?) ∧ ∃ F', A'.P w' F' ∧ ∀ b, F' b → F b ∨ w.heap.size ≤ b) : St w0 w' (A' :: Is) := by
  obtain ⟨h1, F, ⟨F1, F2, h2, h3, h4, h5⟩, h6⟩ := h
  obtain ⟨s1, F', s2, s3⟩ := step F1 h2
  refine ⟨Ex.of_below ⟨ho.trans h1.below.os, ht.trans h1.below.tape, hp.trans h1.below.output, Nat.le_trans h1.size hs, fun k hk => ?_⟩, fun b => F' b ∨ F2 b, ⟨F', F2, s2, h3.stable fun b hb => s1 b (h3.lt b hb) fun h => h4 b h hb, fun b hb hg => ?_, fun b => Iff.rfl⟩, fun b hb => ?_⟩
  · rw [s1 k (Nat.lt_of_lt_of_le hk h1.size) (fun h => by have := h6 k ((h5 k).2 (.inl h)); omega)]
    exact h1.block hk
  · rcases s3 b hb with h | h
    · exact h4 b h hg
    · have := h3.lt b hg; omega
  · rcases hb with hb | hb
    · rcases s3 b hb with h | h
      · exact h6 b ((h5 b).2 (.inl h))
      · have := h1.size; omega
    · exact h6 b ((h5 b).2 (.inr hb))
theorem St.same (h : St w0 w (A :: Is)) (step : ∀ F, A.P w F → ∃ F', A'.P w F' ∧ ∀ b, F' b → F b) : St w0 w (A' :: Is) :=
  h.turn rfl rfl rfl (Nat.le_refl _) fun F hF => ⟨fun _ _ _ => rfl, let ⟨F', h1, h2⟩ := step F hF; ⟨F', h1, fun b hb => .inl (h2 b hb)⟩⟩
end
def rowA (b : Nat) (cs : List Value) (T : TypeId) : Asn where
  P w F := w.heap[b]? = some (.cells cs.toArray T (0, 0)) ∧ ∀ c, F c ↔ c = b
  stable h hs := ⟨(hs b ((h.2 b).2 rfl)).trans h.1, h.2⟩
  lt h b hb := by rw [(h.2 b).1 hb]; exact row_lt h.1
def ownA {α : Type} [Rep α] (x : α) (vs : List Value) : Asn where
  P w F := ∃ bs, Rep.tree w x vs bs ∧ bs.Nodup ∧ (∀ b ∈ bs, ∀ o, w.frozen? ⟨b, o, none⟩ = false) ∧ ∀ b, F b ↔ b ∈ bs
  stable := by
    rintro w w' F ⟨bs, h1, h2, h3, h4⟩ hs
    have hb : ∀ b ∈ bs, w'.heap[b]? = w.heap[b]? := fun b hb => hs b ((h4 b).2 hb)
    exact ⟨bs, Rep.stable h1 hb, h2, fun b hm o => by rw [World.frozen?_of_block (w := w) (hb b hm)]; exact h3 b hm o, h4⟩
  lt := by
    rintro w F ⟨bs, h1, h2, h3, h4⟩ b hb
    exact Rep.lt h1 b ((h4 b).1 hb)
def slotA (E : TypeId) (size : Nat) (v : Value) (n : Nat) (xs : List Value) : Asn where
  P w F := Slot 0 w E size v n xs ∧ ∀ b, F b ↔ b ∈ v.blk
  stable h hs := ⟨h.1.stay fun b hb => hs b ((h.2 b).2 hb), h.2⟩
  lt h b hb := (h.1.blk_lt b ((h.2 b).1 hb)).2
section
variable {w0 w w' : World} {Is Js : List Asn}
theorem St.row {b : Nat} {cs : List Value} {T : TypeId} (h : St w0 w Is) (t : Take Is (rowA b cs T) Js) : w.heap[b]? = some (.cells cs.toArray T (0, 0)) := let ⟨_, h, _⟩ := h.get t; h
theorem St.holds {α : Type} [Rep α] {x : α} {vs : List Value} (h : St w0 w Is) (t : Take Is (ownA x vs) Js) : Holds w x vs := let ⟨_, bs, h, _⟩ := h.get t; ⟨bs, h⟩
theorem St.slot {E : TypeId} {size : Nat} {v : Value} {n : Nat} {xs : List Value} (h : St w0 w Is) (t : Take Is (slotA E size v n xs) Js) : Slot 0 w E size v n xs := let ⟨_, h, _⟩ := h.get t; h
theorem St.own {α : Type} [Rep α] {x : α} {vs : List Value} (h : St w0 w Is) (ho : Owns w.heap.size w' x vs) (hx : Ex w w') : St w0 w' (ownA x vs :: Is) := by
  obtain ⟨bs, t, nd, f⟩ := ho
  exact h.add hx (A := ownA x vs) (F := fun b => b ∈ bs) ⟨bs, t, nd, fun b hb => (f b hb).2, fun _ => Iff.rfl⟩ fun b hb => (f b hb).1
theorem St.owns {α : Type} [Rep α] {x : α} {vs : List Value} (h : St w0 w Is) (t : Take Is (ownA x vs) Js) : Owns w0.heap.size w x vs := by
  obtain ⟨h1, F, ⟨F1, F2, ⟨bs, k1, k2, k3, k4⟩, _, _, h5⟩, h6⟩ := h.take t
  exact ⟨bs, k1, k2, fun b hb => ⟨h6 b ((h5 b).2 (.inl ((k4 b).2 hb))), k3 b hb⟩⟩
theorem St.alloc (h : St w0 w Is) (cs : Array Value) (T : TypeId) : St w0 (w.alloc (.cells cs T)) (rowA w.heap.size cs.toList T :: Is) :=
  h.add ((Ex.refl w).alloc _) (A := rowA w.heap.size cs.toList T) (F := fun b => b = w.heap.size) ⟨by rw [row_alloc], fun _ => Iff.rfl⟩ fun b hb => Nat.le_of_eq hb.symm
def nicL : List Value → Nat → List Value → List Value
  | cs, _, [] => cs
  | [], _, _ :: _ => []
  | _ :: cs, 0, v :: vs => v :: nicL cs 0 vs
  | c :: cs, n + 1, v :: vs => c :: nicL cs n (v :: vs)
theorem nicL_nil (o : Nat) (vs : List Value) : nicL [] o vs = [] := by cases vs <;> rfl
theorem nicL_size : ∀ (cs : List Value) (o : Nat) (vs : List Value), (nicL cs o vs).length = cs.length
  | [], _, vs => by rw [nicL_nil]
  | _ :: _, _, [] => rfl
  | c :: cs, 0, v :: vs => by simp [nicL, nicL_size cs 0 vs]
  | c :: cs, n + 1, v :: vs => by simp [nicL, nicL_size cs n (v :: vs)]
theorem nicL_in : ∀ (cs : List Value) (o : Nat) (vs : List Value) (k : Nat), o + vs.length ≤ cs.length → (nicL cs o vs)[k]? = if o ≤ k ∧ k < o + vs.length then vs[k - o]? else cs[k]?
  | cs, o, [], k, _ => by simp [nicL]; omega
  | [], o, v :: vs, k, h => by simp at h
  | c :: cs, 0, v :: vs, 0, h => by simp [nicL]
  | c :: cs, 0, v :: vs, k + 1, h => by
    have := nicL_in cs 0 vs k (by simpa using h)
    simp only [nicL, List.getElem?_cons_succ, this]
    simp
  | c :: cs, n + 1, v :: vs, 0, h => by simp [nicL]
  | c :: cs, n + 1, v :: vs, k + 1, h => by
    have := nicL_in cs n (v :: vs) k (by simp at h ⊢; omega)
    simp only [nicL, List.getElem?_cons_succ, this]
    by_cases hh : n ≤ k ∧ k < n + (v :: vs).length
    · rw [if_pos hh, if_pos (by omega)]; congr 1; omega
    · rw [if_neg hh, if_neg (by omega)]
theorem nic_eq (cs vs : List Value) (o : Nat) (h : o + vs.length ≤ cs.length) : nicRow cs.toArray o vs = (nicL cs o vs).toArray := by
  apply Array.ext_getElem?
  intro k
  have e0 : (nicL cs o vs).toArray[k]? = (nicL cs o vs)[k]? := by simp
  rw [e0, nicL_in cs o vs k h]
  by_cases h1 : k < o
  · rw [nicRow_lo _ _ _ _ h1, if_neg (by omega)]; simp
  · by_cases h2 : k < o + vs.length
    · rw [if_pos (by omega)]
      have := nicRow_in vs cs.toArray o (k - o) (by omega) (by simpa using h)
      rwa [show o + (k - o) = k from by omega] at this
    · rw [if_neg (by omega)]
      have key : ∀ (vs : List Value) (C : Array Value) (o : Nat), o + vs.length ≤ k → (nicRow C o vs)[k]? = C[k]? := by
        intro vs
        induction vs with
        | nil => intro _ _ _; rfl
        | cons v r ih => intro C o hk; simp at hk; rw [nicRow, ih _ _ (by omega), Array.getElem?_setIfInBounds, if_neg (by omega)]
      rw [key vs _ o (by omega)]; simp
theorem St.setCells {b o : Nat} {cs vs : List Value} {T : TypeId} (h : St w0 w Is) (t : Take Is (rowA b cs T) Js) (hl : o + vs.length ≤ cs.length) : St w0 (w.setCells b o vs) (rowA b (nicL cs o vs) T :: Js) := by
  obtain ⟨r1, r2, r3, r4, r5⟩ := setCells_rest vs w b o
  refine (h.take t).turn r1 r2 r3 (Nat.le_of_eq r4.symm) fun F hF => ⟨fun c _ hc => r5 c fun e => hc ((hF.2 c).2 e), F, ⟨?_, hF.2⟩, fun c hc => .inl hc⟩
  rw [row_setCells vs w b o _ _ _ hF.1, nic_eq _ _ _ hl]
theorem St.setCell {b o : Nat} {cs : List Value} {v : Value} {T : TypeId} (h : St w0 w Is) (t : Take Is (rowA b cs T) Js) (hl : o < cs.length) : St w0 (w.setCell ⟨b, o, none⟩ v) (rowA b (nicL cs o [v]) T :: Js) :=
  h.setCells (vs := [v]) t (by simp; omega)
theorem St.app {E : TypeId} {size : Nat} {v v' : Value} {n m : Nat} {xs xs' : List Value} {f : Nat → Obj} {g : Gr} (h : St w0 w Is) (t : Take Is (slotA E size v n xs) Js) {lo : Nat} (hs : Slot lo ((w.upd v.blk f).plus g) E size v' m xs') (hv : ∀ b ∈ v'.blk, b ∈ v.blk ∨ w.heap.size ≤ b) :
    St w0 ((w.upd v.blk f).plus g) (slotA E size v' m xs' :: Js) := by
  refine (h.take t).turn rfl rfl rfl (by simp) fun F hF => ⟨fun b hb hn => ?_, fun b => b ∈ v'.blk, ⟨⟨hs.1, hs.2.imp id fun ⟨b, off, cap, cur, h1, h2, h3⟩ => ⟨b, off, cap, cur, h1, Nat.zero_le _, h3⟩⟩, fun _ => Iff.rfl⟩, fun b hb => (hv b hb).imp (fun h => (hF.2 b).2 h) id⟩
  rw [show ∀ (w : World) (g : Gr), (w.plus g).heap = w.heap ++ g.o from fun _ _ => rfl, Array.getElem?_append_left (by simpa using hb), World.block_upd _ _ _ (fun h => hn ((hF.2 b).2 h))]
theorem St.split {α β : Type} [Rep α] [Rep β] {x : α} {y : β} {v1 v2 : List Value} (h : St w0 w (ownA (x, y) (v1 ++ v2) :: Is)) (hl : v1.length = Rep.size α) : St w0 w (ownA x v1 :: ownA y v2 :: Is) := by
  obtain ⟨h1, F, ⟨F1, F2, ⟨bs, ⟨u1, u2, b1, b2, e, rfl, t1, t2⟩, p2, p3, p4⟩, h3, h4, h5⟩, h6⟩ := h
  have hu : u1.length = v1.length := by rw [hl]; exact Rep.len t1
  obtain ⟨rfl, rfl⟩ := List.append_inj e hu.symm
  rw [List.nodup_append] at p2
  refine ⟨h1, F, ⟨fun b => b ∈ b1, fun b => b ∈ b2 ∨ F2 b, ⟨b1, t1, p2.1, fun b hb => p3 b (List.mem_append_left _ hb), fun _ => Iff.rfl⟩, ⟨fun b => b ∈ b2, F2, ⟨b2, t2, p2.2.1, fun b hb => p3 b (List.mem_append_right _ hb), fun _ => Iff.rfl⟩, h3, fun b hb => h4 b ((p4 b).2 (List.mem_append_right _ hb)), fun _ => Iff.rfl⟩, fun b hb hg => ?_, fun b => ?_⟩, h6⟩
  · rcases hg with hg | hg
    · exact p2.2.2 b hb b hg rfl
    · exact h4 b ((p4 b).2 (List.mem_append_left _ hb)) hg
  · rw [h5, p4, List.mem_append, or_assoc]
end
section
variable {P : Program} {ops : Array Oper} {rest : List Oper} {o : Oper} {a : Act} {w w0 : World} {Q : Exit → Act → World → Prop} {Is Js : List Asn} {K : Act → World → Prop}
theorem wpList_wanted (hw : Region.wanted o (yielded ops a.tmps) = true) (h : ∀ K : Act → World → Prop, (∀ a w, wpList P ops Q rest a w → K a w) → o.wp P a w K Q) : wpList P ops Q (o :: rest) a w :=
  wpList_step fun K hK => by rw [if_pos hw]; exact h K hK
def zeroCells' (P : Program) (T : TypeId) : Option (List Value) := (P.info? T).bind fun i => i.zero.map fun z => z.cells.toList
theorem zeroCells_some {T : TypeId} {cs : List Value} (h : zeroCells' P T = some cs) : ∃ i z, P.info? T = some i ∧ i.zero = some z ∧ z.cells.toList = cs := by
  unfold zeroCells' at h
  cases hi : P.info? T with
  | none => rw [hi] at h; cases h
  | some i =>
    rw [hi] at h
    cases hz : i.zero with
    | none => simp [hz] at h
    | some z => simp [hz] at h; exact ⟨i, z, rfl, hz, h⟩
theorem wp_alloc_st (T : TypeId) (ho : o.op = .alloc T) {cs : List Value} (hz : zeroCells' P T = some cs) (hs : St w0 w Is)
    (h : ∀ w' b, w.heap.size = b → St w0 w' (rowA b cs T :: Is) → K (a.put o.dst (.pointer (some ⟨b, 0, none⟩))) w') : o.wp P a w K Q := by
  obtain ⟨i, z, h1, h2, rfl⟩ := zeroCells_some hz
  have hr : (Instr.alloc T true (.tuple #[])).run P w = .ok (.pointer (some ⟨w.heap.size, 0, none⟩)) (w.alloc (.cells z.cells T)) := by
    simp [Instr.alloc, zeroValue, typeInfo, h1, h2, newVar, newRow]
  unfold Oper.wp execOp
  simp only [ho, Sem.run_bind, hr, Result.andThen_ok, Sem.run_pure]
  exact h _ _ rfl (hs.alloc z.cells T)
theorem wp_box_st (T : TypeId) (x : Operand) (ho : o.op = .box T x) {v : Value} (hx : a.eval x = v) (hs : St w0 w Is)
    (h : ∀ w' b, w.heap.size = b → St w0 w' (rowA b v.cells.toList T :: Is) → K (a.put o.dst (.pointer (some ⟨b, 0, none⟩))) w') : o.wp P a w K Q := by
  have hr : (Instr.box T v).run P w = .ok (.pointer (some ⟨w.heap.size, 0, none⟩)) (w.alloc (.cells v.cells T)) := by simp [Instr.box, newVar, newRow]
  unfold Oper.wp execOp
  simp only [ho, hx, Sem.run_bind, hr, Result.andThen_ok, Sem.run_pure]
  exact h _ _ rfl (hs.alloc v.cells T)
def scalarT (P : Program) (T : TypeId) : Prop := ∃ d, P.underlying T = some d ∧ d.isRow = false
def aggT (P : Program) (T : TypeId) (n : Nat) : Prop := (∃ d, P.underlying T = some d ∧ d.isRow = true) ∧ (P.info? T).map (·.size) = some n
theorem wp_loadS_st (T : TypeId) (x : Operand) (ho : o.op = .load T x) {b f : Nat} (hx : a.eval x = .pointer (some ⟨b, f, none⟩)) (hs : St w0 w Is) {cs : List Value} {R : TypeId} (t : Take Is (rowA b cs R) Js)
    (hu : scalarT P T) {v : Value} (hc : cs[f]? = some v) (h : K (a.put o.dst v) w) : o.wp P a w K Q := by
  obtain ⟨d, hu, hd⟩ := hu
  have hrow := hs.row t
  have hcell : w.cell? ⟨b, f, none⟩ = some v := by rw [cell_row hrow]; simpa using hc
  have hagg : (isAgg T).run P w = .ok false w := by
    unfold isAgg
    rw [Sem.run_bind, run_underlying hu w]
    cases d <;> simp_all
  have hr : (Instr.loadAt T (.pointer (some ⟨b, f, none⟩))).run P w = .ok v w := by
    simp only [Instr.loadAt, Instr.sureAddr, Sem.run_bind, Sem.run_pure, Result.andThen_ok, loadVar, hagg, Bool.false_eq_true, if_false]
    simp [hcell]
  unfold Oper.wp execOp
  simp only [ho, hx, Sem.run_bind, hr, Result.andThen_ok, Sem.run_pure]
  exact h
theorem wp_loadA_st (T : TypeId) (x : Operand) (ho : o.op = .load T x) {b f : Nat} (hx : a.eval x = .pointer (some ⟨b, f, none⟩)) (hs : St w0 w Is) {cs : List Value} {R : TypeId} (t : Take Is (rowA b cs R) Js)
    {n : Nat} (hu : aggT P T n) {vs : List Value} (hv : (cs.drop f).take n = vs) (hn : vs.length = n) (h : K (a.put o.dst (.agg vs.toArray)) w) : o.wp P a w K Q := by
  obtain ⟨⟨d, hu, hd⟩, hi⟩ := hu
  have hrow := hs.row t
  refine wp_load_mid T x ho b f hx vs d ?_ hu hd (by rw [hn]; exact hi) h
  intro j v hj
  rw [cell_row hrow, List.getElem?_toArray]
  rw [← hv, List.getElem?_take] at hj
  split at hj
  · rw [List.getElem?_drop] at hj; exact hj
  · cases hj
theorem wp_store_st (T : TypeId) (x y : Operand) (ho : o.op = .store T x y) {b f : Nat} (hx : a.eval x = .pointer (some ⟨b, f, none⟩)) {v : Value} (hy : a.eval y = v) (hs : St w0 w Is) {cs : List Value} {R : TypeId} (t : Take Is (rowA b cs R) Js)
    {n : Nat} (hi : (P.info? T).map (·.size) = some n) {vs : List Value} (hv : v.cells.toList = vs) (hn : vs.length = n) (h1 : vs.all (·.oneCell') = true) (hl : f + n ≤ cs.length)
    (h : ∀ w', w'.heap.size = w.heap.size → St w0 w' (rowA b (nicL cs f vs) R :: Js) → K a w') (hd : o.dst = none) : o.wp P a w K Q := by
  subst hv
  have hrow := hs.row t
  have hn' : v.cells.size = n := by simpa using hn
  have hth : w.there b f v.cells.size := fun j hj => by
    rw [hn'] at hj
    refine ⟨?_, frozen_row hrow _⟩
    rw [cell_row hrow, List.getElem?_toArray, List.getElem?_eq_getElem (by omega)]; rfl
  have hsv : (storeVar T ⟨b, f, none⟩ v).run P w = .ok () (w.setCells b f v.cells.toList) := by
    have h0 := run_storeVar_mid (P := P) w b f T v.cells hth (by rw [hn']; exact hi) (by rw [← Array.all_toList]; exact h1)
    cases v <;> first | exact h0 | (simp only [storeVar, Value.cells] at h0 ⊢; exact h0)
  have hr : (Instr.storeAt T (.pointer (some ⟨b, f, none⟩)) v).run P w = .ok () (w.setCells b f v.cells.toList) := by
    simp only [Instr.storeAt, Instr.sureAddr, Sem.run_bind, Sem.run_pure, Result.andThen_ok, hsv]
  have hh := h _ (setCells_rest v.cells.toList w b f).2.2.2.1 (hs.setCells (vs := v.cells.toList) t (by omega))
  unfold Oper.wp execOp
  simp only [ho, hx, hy, Sem.run_bind, hr, Result.andThen_ok, Sem.run_pure]
  show K (a.put o.dst undef) _
  rw [hd]
  exact hh
def RVs (P : Program) (w : World) (tmps : Array Value) : List ResultVar → List Value → Prop
  | [], vs => vs = []
  | r :: rs, vs => ∃ v l, vs = v :: l ∧ RVs P w tmps rs l ∧ match r with
    | .tmp t => tmps.getD t undef = v
    | .cell a t => ∃ b, tmps.getD a undef = .pointer (some b) ∧ (loadVar t b).run P w = .ok v w
theorem RVs.nil {tmps : Array Value} : RVs P w tmps [] [] := rfl
theorem RVs.tmp {tmps : Array Value} {t : Tmp} {v : Value} {rs : List ResultVar} {vs : List Value} (hv : tmps.getD t undef = v) (h : RVs P w tmps rs vs) : RVs P w tmps (.tmp t :: rs) (v :: vs) := ⟨v, vs, rfl, h, hv⟩
theorem RVs.cell {tmps : Array Value} {p : Tmp} {ty : TypeId} {g : Nat} {rs : List ResultVar} {vs : List Value} (hp : tmps.getD p undef = .pointer (some ⟨g, 0, none⟩)) (hs : St w0 w Is) {cs : List Value} {R : TypeId} (t : Take Is (rowA g cs R) Js)
    {n : Nat} (hu : aggT P ty n) (hn : cs.length = n) (h : RVs P w tmps rs vs) : RVs P w tmps (.cell p ty :: rs) (.agg cs.toArray :: vs) := by
  obtain ⟨⟨d, hu, hd⟩, hi⟩ := hu
  exact ⟨_, vs, rfl, h, ⟨g, 0, none⟩, hp, run_loadVar_row w g R ty cs.toArray (0, 0) d (hs.row t) hu (by cases d <;> simp_all) (by rw [hi]; simp [hn])⟩
theorem RVs.run {fn : Func} {tmps : Array Value} {rs : List ResultVar} (hr : fn.results = rs.toArray) {vs : List Value} (h : RVs P w tmps rs vs) : (results fn tmps).run P w = .ok (if h : vs.toArray.size = 1 then vs.toArray[0] else .tuple vs.toArray) w := by
  have key : ∀ (rs : List ResultVar) (vs : List Value), RVs P w tmps rs vs → (rs.mapM (m := Sem) fun
      | .tmp t => pure (tmps.getD t undef)
      | .cell a t => do loadVar t (← asAddr (tmps.getD a undef))).run P w = .ok vs w := by
    intro rs
    induction rs with
    | nil => rintro vs rfl; simp
    | cons r rs ih =>
      rintro vs ⟨v, l, rfl, hl, hv⟩
      have := ih l hl
      cases r with
      | tmp t => simp only at hv; simp only [List.mapM_cons, Sem.run_bind, Sem.run_pure, Result.andThen_ok, hv, this]
      | cell a t =>
        obtain ⟨b, hb, hv⟩ := hv
        have ha : asAddr (tmps.getD a undef) = pure b := by rw [hb]; rfl
        simp only [List.mapM_cons, Sem.run_bind, Sem.run_pure, Result.andThen_ok, ha, hv, this]
  have := key rs vs h
  unfold results
  rw [hr, List.mapM_toArray]
  have e := congrArg (fun r : Result (List Value) => (r.andThen fun a w' => Result.ok a.toArray w').andThen fun a w' => Result.ok (if h : a.size = 1 then a[0] else Value.tuple a) w') this
  simp only [Result.andThen_ok] at e
  simp only [Sem.run_bind, Sem.run_map, Sem.run_pure]
  exact e
end
end Go
end
section
namespace Go
open Go.RowKit
section
variable {P : Program} {ops : Array Oper} {Q : Exit → Act → World → Prop} {S : World → Prop}
def Closed (ops : Array Oper) (listed : Array Bool) : Prop := ∀ k o, ops[k]? = some o → listed.getD k false = true → ∀ x ∈ o.after, Region.binds .any x = true → listed.getD x.on false = true
theorem getD_set {l : Array Bool} {j k : Nat} (h : l.getD k false = true) : (l.setIfInBounds j true).getD k false = true := by
  simp only [Array.getD_eq_getD_getElem?, Array.getElem?_setIfInBounds] at h ⊢
  split
  · split <;> simp_all
  · exact h
theorem Closed.step {listed : Array Bool} {j : Nat} (h : Closed ops listed) (hj : j ∈ Region.ready .any ops listed) : Closed ops (listed.setIfInBounds j true) := by
  obtain ⟨hun, oj, hoj, hall⟩ := mem_ready.1 hj
  intro k o hk hl x hx hb
  by_cases e : k = j
  · subst e
    rw [hoj] at hk
    obtain rfl := Option.some.inj hk
    exact getD_set (hall x hx hb)
  · refine getD_set (h k o hk ?_ x hx hb)
    simp only [Array.getD_eq_getD_getElem?, Array.getElem?_setIfInBounds] at hl ⊢
    rw [if_neg (fun h => e h.symm)] at hl
    exact hl
end
inductive Plan where
  | done
  | early (i : Nat) (p : Plan)
  | pure (i : Nat) (p : Plan)
  | forced (i b : Nat) (p : Plan)
  | fork (i b : Nat) (p : Plan) (j c : Nat) (q : Plan)
  | fork3 (i b : Nat) (p : Plan) (j c : Nat) (q : Plan) (k d : Nat) (r : Plan)
def Plan.len : Plan → Nat
  | .done => 0
  | .early _ p => p.len + 1
  | .pure _ p => p.len + 1
  | .forced _ _ p => p.len + 1
  | .fork _ _ p _ _ q => if p.len == q.len then p.len + 1 else 0
  | .fork3 _ _ p _ _ q _ _ r => if p.len == q.len && p.len == r.len then p.len + 1 else 0
section
variable {P : Program} {ops : Array Oper} {Q : Exit → Act → World → Prop} {S : World → Prop}
def wpOne (P : Program) (ops : Array Oper) (S : World → Prop) (Q : Exit → Act → World → Prop) (i b : Nat) (R : Act → World → Prop) (a : Act) (w : World) : Prop := match ops[i]? with
  | none => False
  | some o => if Region.wanted o (yielded ops a.tmps) then
      (match b with
      | 1 => o.wp P a w (fun a' w' => S w' ∧ R a' w') Q
      | _ => o.wp P a w R Q)
    else R (a.put o.dst undef) w
def wpPlan (P : Program) (ops : Array Oper) (S : World → Prop) (Q : Exit → Act → World → Prop) : Plan → Act → World → Prop
  | .done, a, w => Q .normal a w
  | .early i p, a, w => match ops[i]? with
    | none => False
    | some o => if Region.wanted o (yielded ops a.tmps) then o.quiet P a S (fun a' => wpPlan P ops S Q p a' w) else wpPlan P ops S Q p (a.put o.dst undef) w
  | .pure i p, a, w => match ops[i]? with
    | none => False
    | some o => if Region.wanted o (yielded ops a.tmps) then o.quiet P a (fun _ => True) (fun a' => wpPlan P ops S Q p a' w) else wpPlan P ops S Q p (a.put o.dst undef) w
  | .forced i b p, a, w => wpOne P ops S Q i b (wpPlan P ops S Q p) a w
  | .fork i b p j c q, a, w => wpOne P ops S Q i b (wpPlan P ops S Q p) a w ∧ wpOne P ops S Q j c (wpPlan P ops S Q q) a w
  | .fork3 i b p j c q k d r, a, w => wpOne P ops S Q i b (wpPlan P ops S Q p) a w ∧ wpOne P ops S Q j c (wpPlan P ops S Q q) a w ∧ wpOne P ops S Q k d (wpPlan P ops S Q r) a w
end
attribute [irreducible] wpPlan wpOne
end Go
end
section
namespace Go
open Go.RowKit
set_option linter.unusedVariables false
def sepA (A B : Asn) : Asn where
  P w F := ∃ F1 F2, A.P w F1 ∧ B.P w F2 ∧ (∀ b, F1 b → ¬ F2 b) ∧ ∀ b, F b ↔ (F1 b ∨ F2 b)
  stable := by
    rintro w w' F ⟨F1, F2, h1, h2, h3, h4⟩ hs
    exact ⟨F1, F2, A.stable h1 fun b hb => hs b ((h4 b).2 (.inl hb)), B.stable h2 fun b hb => hs b ((h4 b).2 (.inr hb)), h3, h4⟩
  lt := by
    rintro w F ⟨F1, F2, h1, h2, h3, h4⟩ b hb
    rcases (h4 b).1 hb with h | h
    · exact A.lt h1 b h
    · exact B.lt h2 b h
section
variable {w0 w w' : World} {Is Js Ks : List Asn} {A B : Asn}
theorem St.fuse (h : St w0 w (A :: B :: Is)) : St w0 w (sepA A B :: Is) := by
  obtain ⟨h1, F, ⟨F1, F2, a1, ⟨G1, G2, b1, b2, b3, b4⟩, a3, a4⟩, h6⟩ := h
  refine ⟨h1, F, ⟨fun b => F1 b ∨ G1 b, G2, ⟨F1, G1, a1, b1, fun b hb hg => a3 b hb ((b4 b).2 (.inl hg)), fun _ => Iff.rfl⟩, b2, fun b hb hg => ?_, fun b => ?_⟩, h6⟩
  · rcases hb with hb | hb
    · exact a3 b hb ((b4 b).2 (.inr hg))
    · exact b3 b hb hg
  · rw [a4, b4]
    constructor
    · rintro (h | h | h)
      · exact .inl (.inl h)
      · exact .inl (.inr h)
      · exact .inr h
    · rintro ((h | h) | h)
      · exact .inl h
      · exact .inr (.inl h)
      · exact .inr (.inr h)
theorem St.take2 (h : St w0 w Is) (t : Take Is A Js) (u : Take Js B Ks) : St w0 w (A :: B :: Ks) := h.arr (.cons t (.cons u (by
  induction Ks with
  | nil => exact .nil
  | cons K l ih => exact .cons .head (by
      clear ih t u
      induction l with
      | nil => exact .nil
      | cons K l ih => exact .cons .head ih))))
end
section
variable {w0 w : World} {Is Js Ks : List Asn}
theorem upd_plus_other {w : World} {bs : List Nat} {f : Nat → Obj} {g : Gr} {b : Nat} (hb : b < w.heap.size) (hn : b ∉ bs) : ((w.upd bs f).plus g).heap[b]? = w.heap[b]? := by
  rw [show ∀ (w : World) (g : Gr), (w.plus g).heap = w.heap ++ g.o from fun _ _ => rfl, Array.getElem?_append_left (by simpa using hb), World.block_upd _ _ _ hn]
theorem Slot.zero {lo : Nat} {w : World} {E : TypeId} {size : Nat} {v : Value} {n : Nat} {xs : List Value} (h : Slot lo w E size v n xs) : Slot 0 w E size v n xs :=
  ⟨h.1, h.2.imp id fun ⟨b, off, cap, cur, h1, _, h3⟩ => ⟨b, off, cap, cur, h1, Nat.zero_le _, h3⟩⟩
theorem St.slotNil (h : St w0 w Is) (E : TypeId) (size : Nat) : St w0 w (slotA E size (.slice none 0 0) 0 [] :: Is) :=
  h.add (Ex.refl w) (A := slotA E size (.slice none 0 0) 0 []) (F := fun _ => False) ⟨Slot.nil _ _ _ _, fun b => by simp [Value.blk]⟩ fun _ h => h.elim
theorem St.slotMade {b : Nat} {E : TypeId} (h : St w0 w Is) (size : Nat) (t : Take Is (rowA b [] E) Js) : St w0 w (slotA E size (.slice (some ⟨b, 0, none⟩) 0 0) 0 [] :: Js) :=
  (h.take t).same fun F hF => ⟨F, ⟨⟨by simp, .inr ⟨b, 0, 0, #[], rfl, Nat.zero_le _, hF.1, Nat.le_refl _, Nat.zero_le _, by simp, fun j hj => by simp at hj⟩⟩, fun c => by rw [hF.2]; simp [Value.blk]⟩, fun _ h => h⟩
theorem St.flat {α : Type} [Rep α] [Flat α] (h : St w0 w Is) {x : α} (hok : Flat.ok x) : St w0 w (ownA x (Flat.cells x) :: Is) :=
  h.add (Ex.refl w) (A := ownA x (Flat.cells x)) (F := fun _ => False) ⟨[], Flat.tree.2 ⟨rfl, rfl, hok⟩, List.nodup_nil, (fun b hb => by cases hb), fun b => by simp⟩ fun _ h => h.elim
theorem St.empty {α : Type} [Rep α] (h : St w0 w Is) (a : Option Addr) : St w0 w (ownA ([] : List α) [.slice a 0 0] :: Is) :=
  h.add (Ex.refl w) (A := ownA ([] : List α) [.slice a 0 0]) (F := fun _ => False) ⟨[], ⟨a, 0, rfl, Nat.le_refl _, Nat.zero_le _, .inl ⟨rfl, rfl⟩⟩, List.nodup_nil, (fun b hb => by cases hb), fun b => by simp⟩ fun _ h => h.elim
theorem ownA.form {α : Type} [Rep α] {xs : List α} {v : Value} (h : St w0 w Is) (t : Take Is (ownA xs [v]) Js) : ∃ a c, v = .slice a xs.length c := by
  obtain ⟨_, bs, ⟨a, cap, hv, _⟩, _⟩ := h.get t
  simp only [List.cons.injEq, and_true] at hv
  exact ⟨a, cap, hv⟩
theorem St.ret {α : Type} [Rep α] {xs : List α} {v : Value} (h : St w0 w Is) (t : Take Is (ownA xs [v]) Js) : RetSl w0 xs (.returned v) w := by
  obtain ⟨a, c, rfl⟩ := ownA.form h t
  exact ⟨a, c, rfl, h.owns t, h.ex⟩
end
section
variable {P : Program} {ops : Array Oper} {rest : List Oper} {o : Oper} {a : Act} {w w0 : World} {Q : Exit → Act → World → Prop} {Is Js Ks : List Asn} {K : Act → World → Prop}
def infoT (P : Program) (e : TypeId) (z : Value) (size bytes : Nat) : Prop := (P.info? e).map (fun i => (i.zero, i.size, i.bytes)) = some (some z, size, bytes) ∧ z.cells.size = size
theorem wp_app_st (s y : Operand) (t tx : TypeId) (ho : o.op = .call { callee := .builtin .append, args := #[s, y], argTypes := #[t, tx] }) (e : TypeId) {z : Value} {size bytes : Nat} (ht : P.underlying t = some (.slice e)) (hi : infoT P e z size bytes)
    {v : Value} {n : Nat} {xs : List Value} (hsv : a.eval s = v) (hs : St w0 w Is) (tk : Take Is (slotA e size v n xs) Js) {x : Value} {m : Nat} {news : List Value} (hy : a.eval y = x) (hx : Src P size tx x m news w)
    (h63 : n + m ≤ maxLen) (hby : (n + m) * bytes ≤ 140737488355328)
    (h : ∀ A c w', w.heap.size ≤ w'.heap.size → St w0 w' (slotA e size (.slice A (n + m) c) (n + m) (xs ++ news) :: Js) → K (a.put o.dst (.slice A (n + m) c)) w') : o.wp P a w K Q :=
  wp_app s y t tx ho e z size bytes ht hi.1 hi.2 0 v n xs hsv (hs.slot tk) x m news hy hx h63 hby (Nat.zero_le _) fun v' f g h1 h2 => by
    have h3 := hs.app tk h1 h2
    obtain ⟨A, c, rfl, _⟩ := h1.form
    exact h A c _ (by simp) h3
theorem Src.row {tx e' T : TypeId} {b c : Nat} {cs : List Value} {size : Nat} (hs : St w0 w Is) (t : Take Is (rowA b cs T) Js) (hk : P.underlying tx = some (.slice e')) (hc : cs.all (·.oneCell') = true) (hn : cs.length = size) : Src P size tx (.slice (some ⟨b, 0, none⟩) 1 c) 1 cs w := by
  subst hn
  exact Src.lone (T := T) hk cs.toArray (by simpa using hc) b (hs.row t)
theorem foldl_fill (vs : List Value) : ∀ (k : Nat) (pre rest : List Value), rest.length = vs.length → k = pre.length → ((vs.zipIdx k).foldl (fun (cs : Array Value) (p : Value × Nat) => cs.setIfInBounds (0 + p.2) p.1) (pre ++ rest).toArray) = (pre ++ vs).toArray := by
  induction vs with
  | nil => intro k pre rest h _; simp at h; subst h; simp
  | cons v vs ih =>
    intro k pre rest h hk
    match rest, h with
    | r :: rest, h =>
      simp only [List.zipIdx_cons, List.foldl_cons, Nat.zero_add]
      have e : (pre ++ r :: rest).toArray.setIfInBounds k v = ((pre ++ [v]) ++ rest).toArray := by
        subst hk
        simp
      rw [e]
      have := ih (k + 1) (pre ++ [v]) rest (by simpa using h) (by simp [hk])
      simp only [Nat.zero_add] at this
      rw [this]; simp
theorem run_bslice1 (t e : TypeId) {z : Value} {size bytes : Nat} (ht : P.underlying t = some (.slice e)) (hi : infoT P e z size bytes) (hp : 0 < size) (hm : size ≤ 1000) {x : Value} (hx : x.cells.size = size) :
    (Instr.buildSlice t 1 #[(0, x)]).run P w = .ok (.slice (some ⟨w.heap.size, 0, none⟩) 1 1) (w.alloc (.cells x.cells e)) := by
  obtain ⟨h1, h2⟩ := hi
  obtain ⟨i, hi, hzz⟩ := Option.map_eq_some_iff.1 h1
  simp only [Prod.mk.injEq] at hzz
  obtain ⟨hz, rfl, rfl⟩ := hzz
  refine run_buildSlice w t e 1 _ x.cells i z ht hi hz (by omega) (by omega) ?_
  have hsz : ((Array.range (1 * i.size)).map (z.cells[· % z.cells.size]!)).size = i.size := by simp
  simp only [Instr.fill]
  rw [if_neg (by rw [hsz]; simp [hx])]
  have := foldl_fill x.cells.toList 0 [] ((Array.range (1 * i.size)).map (z.cells[· % z.cells.size]!)).toList (by simp [hx]) rfl
  simp only [List.nil_append, Array.toArray_toList] at this
  rw [← Array.foldl_toList, Array.toList_zipIdx]
  simp only [Nat.zero_mul]
  exact congrArg some this
theorem run_bslice0 (t e : TypeId) (hi : (P.info? e).isSome = true) (ht : P.underlying t = some (.slice e)) :
    (Instr.buildSlice t 0 #[]).run P w = .ok (.slice (some ⟨w.heap.size, 0, none⟩) 0 0) (w.alloc (.cells #[] e)) := by
  obtain ⟨i, hi⟩ := Option.isSome_iff_exists.1 hi
  simp [Instr.buildSlice, run_underlying ht, sizeOf, typeInfo, hi, Instr.fill, newRow]
  rw [show ∀ f : Nat → Value, Array.map f (Array.range 0) = #[] from fun f => Array.eq_empty_of_size_eq_zero (by simp)]
theorem infoT.some {e : TypeId} {z : Value} {size bytes : Nat} (h : infoT P e z size bytes) : (P.info? e).isSome = true := by
  obtain ⟨i, hi, _⟩ := Option.map_eq_some_iff.1 h.1
  rw [hi]; rfl
theorem wp_bslice0_st (t : TypeId) (ho : o.op = .buildSlice t 0 #[]) (e : TypeId) (ht : P.underlying t = some (.slice e)) {z : Value} {size bytes : Nat} (hi : infoT P e z size bytes) (hs : St w0 w Is)
    (h : ∀ w' b, w.heap.size = b → St w0 w' (rowA b [] e :: Is) → K (a.put o.dst (.slice (some ⟨b, 0, none⟩) 0 0)) w') : o.wp P a w K Q := by
  have hr := run_bslice0 (w := w) t e hi.some ht
  unfold Oper.wp execOp
  simp only [ho, List.map_toArray, List.map_nil, Sem.run_bind, hr, Result.andThen_ok, Sem.run_pure]
  exact h _ _ rfl (hs.alloc #[] e)
theorem wp_bslice1_st (t : TypeId) (y : Operand) (ho : o.op = .buildSlice t 1 #[(0, y)]) (e : TypeId) (ht : P.underlying t = some (.slice e)) {z : Value} {size bytes : Nat} (hi : infoT P e z size bytes) (hp : 0 < size) (hm : size ≤ 1000)
    {x : Value} (hy : a.eval y = x) {vs : List Value} (hv : x.cells.toList = vs) (hx : vs.length = size) (hs : St w0 w Is)
    (h : ∀ w' b, w.heap.size = b → St w0 w' (rowA b vs e :: Is) → K (a.put o.dst (.slice (some ⟨b, 0, none⟩) 1 1)) w') : o.wp P a w K Q := by
  subst hv
  have hr := run_bslice1 (w := w) t e ht hi hp hm (x := x) (by simpa using hx)
  unfold Oper.wp execOp
  simp only [ho, List.map_toArray, List.map_cons, List.map_nil, hy, Sem.run_bind, hr, Result.andThen_ok, Sem.run_pure]
  exact h _ _ rfl (hs.alloc x.cells e)
theorem wpList_bslice1_st (hw : Region.wanted o (yielded ops a.tmps) = true) (t : TypeId) (y : Operand) (ho : o.op = .buildSlice t 1 #[(0, y)]) (e : TypeId) (ht : P.underlying t = some (.slice e)) {z : Value} {size bytes : Nat} (hi : infoT P e z size bytes) (hp : 0 < size) (hm : size ≤ 1000)
    {x : Value} (hy : a.eval y = x) {vs : List Value} (hv : x.cells.toList = vs) (hx : vs.length = size) (hs : St w0 w Is)
    (h : ∀ w' b, w.heap.size = b → St w0 w' (rowA b vs e :: Is) → wpList P ops Q rest (a.put o.dst (.slice (some ⟨b, 0, none⟩) 1 1)) w') : wpList P ops Q (o :: rest) a w :=
  wpList_wanted hw fun _ hK => wp_bslice1_st t y ho e ht hi hp hm hy hv hx hs fun w' b h1 h2 => hK _ _ (h w' b h1 h2)
end
end Go
end
section
namespace Go
open Go.RowKit
set_option linter.unusedVariables false
theorem take_all : ∀ (l : List Asn), Arr l l
  | [] => .nil
  | A :: l => .cons .head (take_all l)
def preL : List (List Int) → Nat → Nat
  | _, 0 => 0
  | [], _ + 1 => 0
  | x :: l, i + 1 => x.length + preL l i
def MidSS (w wr : World) (bs : List Nat) (b : Nat) (xs : List (List Int)) (k : Int) (i : Nat) (ts : Nat → List Value) (ds : Nat → List Nat) : Prop :=
  wr.os = w.os ∧ wr.tape = w.tape ∧ wr.output = w.output ∧ w.heap.size ≤ wr.heap.size ∧ (∀ c, c < w.heap.size → c ∉ bs → wr.heap[c]? = w.heap[c]?) ∧ wr.heap[b]? = w.heap[b]? ∧
    (∀ c ∈ bs, c < w.heap.size ∧ ∀ o, wr.frozen? ⟨c, o, none⟩ = false) ∧ ∀ j (hj : j < xs.length), Rep.tree wr (if j < i then marks xs[j].length (k + preL xs j) else xs[j]) (ts j) (ds j)
theorem nodup_range_apart {ds : Nat → List Nat} : ∀ {n : Nat}, ((List.range n).flatMap ds).Nodup → ∀ {i j : Nat}, i < n → j < n → i ≠ j → ∀ {c : Nat}, c ∈ ds i → c ∉ ds j
  | 0, _, i, j, hi, _, _, _, _ => absurd hi (Nat.not_lt_zero _)
  | n + 1, h, i, j, hi, hj, hij, c, hc => by
    rw [List.range_succ, List.flatMap_append, List.nodup_append] at h
    obtain ⟨h1, h2, h3⟩ := h
    intro hc2
    by_cases e1 : i = n
    · subst e1
      have : j < i := by omega
      exact h3 c (List.mem_flatMap.2 ⟨j, List.mem_range.2 this, hc2⟩) c (by simpa using hc) rfl
    · by_cases e2 : j = n
      · subst e2
        exact h3 c (List.mem_flatMap.2 ⟨i, List.mem_range.2 (by omega), hc⟩) c (by simpa using hc2) rfl
      · exact nodup_range_apart h1 (by omega) (by omega) hij hc hc2
theorem MidSS.step {w wr w' : World} {bs : List Nat} {b : Nat} {xs : List (List Int)} {k : Int} {i : Nat} {ts : Nat → List Value} {ds : Nat → List Nat} (h : MidSS w wr bs b xs k i ts ds) (hi : i < xs.length)
    (hbs : bs = b :: (List.range xs.length).flatMap ds) (hn : bs.Nodup) {f : Nat → Obj} {g : Gr} (hw : w' = (wr.upd (ds i) f).plus g) (ht : Rep.tree w' (marks xs[i].length (k + preL xs i)) (ts i) (ds i)) (hf : ∀ c ∈ ds i, ∀ o, w'.frozen? ⟨c, o, none⟩ = false) :
    MidSS w w' bs b xs k (i + 1) ts ds := by
  obtain ⟨h1, h2, h3, h4, h5, h6, h7, h8⟩ := h
  have hin : ∀ j, j < xs.length → ∀ c ∈ ds j, c ∈ bs := fun j hj c hc => by rw [hbs]; exact List.mem_cons_of_mem _ (List.mem_flatMap.2 ⟨j, List.mem_range.2 hj, hc⟩)
  have hdis : ∀ j, j < xs.length → j ≠ i → ∀ c ∈ ds j, c ∉ ds i := by
    rw [hbs, List.nodup_cons] at hn
    exact fun j hj hji c hc hc2 => nodup_range_apart hn.2 hj hi hji hc hc2
  have hb : b ∉ ds i := by
    rw [hbs, List.nodup_cons] at hn
    exact fun hm => hn.1 (List.mem_flatMap.2 ⟨i, List.mem_range.2 hi, hm⟩)
  have hsame : ∀ c, c < wr.heap.size → c ∉ ds i → w'.heap[c]? = wr.heap[c]? := fun c hc hm => by rw [hw]; exact upd_plus_other hc hm
  refine ⟨by rw [hw]; exact h1, by rw [hw]; exact h2, by rw [hw]; exact h3, Nat.le_trans h4 (by rw [hw]; simp), fun c hc hm => ?_, ?_, fun c hc => ⟨(h7 c hc).1, fun o => ?_⟩, fun j hj => ?_⟩
  · rw [hsame c (by omega) fun hd => hm (hin i hi c hd)]; exact h5 c hc hm
  · have hbb := (h7 b (by rw [hbs]; exact List.mem_cons_self ..)).1
    rw [hsame b (by omega) hb]; exact h6
  · by_cases hd : c ∈ ds i
    · exact hf c hd o
    · have hcl := (h7 c hc).1
      rw [World.frozen?_of_block (w := wr) (hsame c (by omega) hd)]; exact (h7 c hc).2 o
  · by_cases hji : j = i
    · subst hji; rw [if_pos (by omega)]; exact ht
    · have := h8 j hj
      have e : (if j < i + 1 then marks xs[j].length (k + preL xs j) else xs[j]) = if j < i then marks xs[j].length (k + preL xs j) else xs[j] := by
        by_cases hlt : j < i
        · rw [if_pos hlt, if_pos (by omega)]
        · rw [if_neg hlt, if_neg (by omega)]
      rw [e]
      exact Rep.stable this fun c hc => hsame c (Rep.lt this c hc) (hdis j hj hji c hc)
end Go
end
section
namespace Go
open Go.RowKit
set_option linter.unusedVariables false
def cutA (a : Option Addr) (l cap sz : Nat) : Option Addr := if cap = l then a else a.map (·.add (l * sz))
def PureOp (P : Program) (o : Oper) (a : Act) (v : Value) : Prop := ∀ w, (execOp a.eval o).run P w = .ok (.value v) w
section
variable {P : Program} {ops : Array Oper} {rest : List Oper} {o : Oper} {a : Act} {w : World} {Q : Exit → Act → World → Prop} {K : Act → World → Prop} {C : World → Prop} {v : Value}
theorem wp_pure (h : PureOp P o a v) (hk : K (a.put o.dst v) w) : o.wp P a w K Q := by
  unfold Oper.wp; rw [h w]; exact hk
theorem run_cut (t e : TypeId) {z : Value} {sz bytes : Nat} (ht : P.underlying t = some (.slice e)) (hi : infoT P e z sz bytes) (A : Option Addr) (n cap l h : Nat) (lo hi' : Option Value)
    (hb : (Instr.sliceBounds true n cap lo hi' none).run P w = .ok (l, h, cap) w) : (Instr.sliceAt t (.slice A n cap) lo hi' none).run P w = .ok (.slice (cutA A l cap sz) (h - l) (cap - l)) w := by
  obtain ⟨i, hi1, hi2⟩ := Option.map_eq_some_iff.1 hi.1
  simp only [Prod.mk.injEq] at hi2
  obtain ⟨_, rfl, _⟩ := hi2
  simp [Instr.sliceAt, Instr.slice, run_underlying ht, hb, sizeOf, typeInfo, hi1, cutA]
theorem pure_cutHi (t : TypeId) (x y : Operand) (ho : o.op = .slice t x none (some y) none) (e : TypeId) {z : Value} {sz bytes : Nat} (ht : P.underlying t = some (.slice e)) (hi : infoT P e z sz bytes) {A : Option Addr} {n cap h : Nat}
    (hx : a.eval x = .slice A n cap) (hy : a.eval y = .int .i64 (h : Int)) (hh : h ≤ cap) : PureOp P o a (.slice (cutA A 0 cap sz) (h - 0) (cap - 0)) := by
  intro w
  have := run_cut (w := w) t e ht hi A n cap 0 h none (some (.int .i64 (h : Int))) (by
    have := run_sliceBound (P := P) (w := w) .i64 (h : Int) cap .sliceAcap (by omega) (by omega)
    simp [Instr.sliceBounds, this])
  unfold execOp
  simp only [ho, hx, hy, Option.map_some, Option.map_none, Sem.run_bind, this, Result.andThen_ok, Sem.run_pure]
theorem pure_cutLo (t : TypeId) (x y : Operand) (ho : o.op = .slice t x (some y) none none) (e : TypeId) {z : Value} {sz bytes : Nat} (ht : P.underlying t = some (.slice e)) (hi : infoT P e z sz bytes) {A : Option Addr} {n cap l : Nat}
    (hx : a.eval x = .slice A n cap) (hy : a.eval y = .int .i64 (l : Int)) (hh : l ≤ n) : PureOp P o a (.slice (cutA A l cap sz) (n - l) (cap - l)) := by
  intro w
  have := run_cut (w := w) t e ht hi A n cap l n (some (.int .i64 (l : Int))) none (by
    have := run_sliceBound (P := P) (w := w) .i64 (l : Int) n .sliceB (by omega) (by omega)
    simp [Instr.sliceBounds, this])
  unfold execOp
  simp only [ho, hx, hy, Option.map_some, Option.map_none, Sem.run_bind, this, Result.andThen_ok, Sem.run_pure]
end
theorem addr_add (b off k : Nat) : (⟨b, off, none⟩ : Addr).add k = ⟨b, off + k, none⟩ := by unfold Addr.add; split <;> simp_all
theorem Holds.cut {α : Type} [Rep α] {w : World} {xs : List α} {A : Option Addr} {n cap : Nat} (h : Holds w xs [.slice A n cap]) {l hh sz : Nat} (h1 : l ≤ hh) (h2 : hh ≤ n) (hsz : sz = Rep.size α) :
    Holds w ((xs.take hh).drop l) [.slice (cutA A l cap sz) (hh - l) (cap - l)] := by
  subst hsz
  obtain ⟨bs, a, cap', hv, k1, k2, k3⟩ := h
  simp only [List.cons.injEq, Value.slice.injEq, and_true] at hv
  obtain ⟨rfl, rfl, rfl⟩ := hv
  have hlen : ((xs.take hh).drop l).length = hh - l := by simp; omega
  by_cases hc : cap = l
  · have : hh - l = 0 := by omega
    rw [this, show cap - l = 0 from by omega]
    exact ⟨[], _, 0, by rw [hlen, this], by rw [hlen, this]; exact Nat.le_refl _, Nat.zero_le _, .inl ⟨rfl, rfl⟩⟩
  · rcases k3 with ⟨h0, _⟩ | ⟨b, off, cur, E, fr, ts, ds, rfl, hp, hb, hs, rfl, he⟩
    · omega
    · unfold cutA
      rw [if_neg hc]
      simp only [Option.map_some, addr_add]
      refine ⟨_, _, cap - l, by rw [hlen], by rw [hlen]; omega, by omega, .inr ⟨b, off + l * Rep.size α, cur, E, fr, fun i => ts (l + i), fun i => ds (l + i), rfl, by omega, hb, ?_, rfl, fun i hi => ?_⟩⟩
      · have : l * Rep.size α + (cap - l) * Rep.size α = cap * Rep.size α := by rw [← Nat.add_mul]; congr 1; omega
        omega
      · rw [hlen] at hi
        have := he (l + i) (by omega)
        refine ⟨?_, fun j hj => ?_⟩
        · simp only [List.getElem_drop, List.getElem_take]; exact this.1
        · rw [← this.2 j hj]; congr 1; rw [Nat.add_mul]; omega
end Go
end
section
namespace Go
open Go.RowKit
set_option linter.unusedVariables false
def gapA {α : Type} [Rep α] (xs : List α) (v : Value) (k : Nat) (u : Value) : Asn where
  P w F := ∃ (b off cap : Nat) (cur : Array Value) (E : TypeId) (fr : Nat × Nat) (ts : Nat → List Value) (ds : Nat → List Nat), v = .slice (some ⟨b, off, none⟩) xs.length cap ∧ 0 < cap ∧ xs.length ≤ cap ∧ cap ≤ maxLen ∧ k < xs.length ∧ Rep.size α = 1 ∧ w.heap[b]? = some (.cells cur E fr) ∧ off + cap ≤ cur.size ∧
    (∀ o, w.frozen? ⟨b, o, none⟩ = false) ∧ cur[off + k]? = some u ∧ ds k = [] ∧
    (∀ i (h : i < xs.length), i ≠ k → Rep.tree w (xs[i]'h) (ts i) (ds i) ∧ cur[off + i]? = (ts i)[0]?) ∧
    (b :: (List.range xs.length).flatMap ds).Nodup ∧ (∀ c ∈ (List.range xs.length).flatMap ds, ∀ o, w.frozen? ⟨c, o, none⟩ = false) ∧ ∀ c, F c ↔ c ∈ b :: (List.range xs.length).flatMap ds
  stable := by
    rintro w w' F ⟨b, off, cap, cur, E, fr, ts, ds, h1, h2, h3, h4, h5, h6, h7, h8, h9, h10, h11, h12, h13, h14, h15⟩ hs
    have hb := hs b ((h15 b).2 (List.mem_cons_self ..))
    have hin : ∀ i, i < xs.length → ∀ c ∈ ds i, c ∈ (List.range xs.length).flatMap ds := fun i hi c hc => List.mem_flatMap.2 ⟨i, List.mem_range.2 hi, hc⟩
    refine ⟨b, off, cap, cur, E, fr, ts, ds, h1, h2, h3, h4, h5, h6, hb.trans h7, h8, fun o => by rw [World.frozen?_of_block (w := w) hb]; exact h9 o, h10, h11, fun i hi hk => ⟨Rep.stable (h12 i hi hk).1 fun c hc => hs c ((h15 c).2 (List.mem_cons_of_mem _ (hin i hi c hc))), (h12 i hi hk).2⟩, h13, fun c hc o => ?_, h15⟩
    rw [World.frozen?_of_block (w := w) (hs c ((h15 c).2 (List.mem_cons_of_mem _ hc)))]; exact h14 c hc o
  lt := by
    rintro w F ⟨b, off, cap, cur, E, fr, ts, ds, h1, h2, h3, h4, h5, h6, h7, h8, h9, h10, h11, h12, h13, h14, h15⟩ c hc
    rcases List.mem_cons.1 ((h15 c).1 hc) with rfl | hc
    · exact row_lt h7
    · obtain ⟨i, hi, hm⟩ := List.mem_flatMap.1 hc
      by_cases e : i = k
      · subst e; rw [h11] at hm; cases hm
      · exact Rep.lt (h12 i (List.mem_range.1 hi) e).1 c hm
theorem flatMap_upd {ds : Nat → List Nat} {k : Nat} {l : List Nat} : ∀ (n : Nat), n ≤ k → (List.range n).flatMap (fun i => if i = k then l else ds i) = (List.range n).flatMap ds
  | 0, _ => rfl
  | n + 1, h => by
    rw [List.range_succ, List.flatMap_append, List.flatMap_append, flatMap_upd n (by omega)]
    simp only [List.flatMap_cons, List.flatMap_nil, List.append_nil]
    rw [if_neg (by omega)]
theorem perm_upd {ds : Nat → List Nat} {k : Nat} {l : List Nat} (h0 : ds k = []) : ∀ (n : Nat), k < n → ((List.range n).flatMap (fun i => if i = k then l else ds i)).Perm (l ++ (List.range n).flatMap ds)
  | 0, h => absurd h (Nat.not_lt_zero _)
  | n + 1, h => by
    rw [List.range_succ, List.flatMap_append, List.flatMap_append]
    simp only [List.flatMap_cons, List.flatMap_nil, List.append_nil]
    by_cases e : n = k
    · subst e
      rw [if_pos rfl, h0, List.append_nil, flatMap_upd n (Nat.le_refl _)]
      exact List.perm_append_comm
    · rw [if_neg e, ← List.append_assoc]
      exact (perm_upd h0 n (by omega)).append_right _
section
variable {w0 w w' : World} {Is Js Ks : List Asn}
theorem gapA.form {α : Type} [Rep α] {xs : List α} {v u : Value} {k : Nat} (h : St w0 w Is) (t : Take Is (gapA xs v k u) Js) : ∃ b off cap, v = .slice (some ⟨b, off, none⟩) xs.length cap ∧ w.cell? ⟨b, off + k, none⟩ = some u := by
  obtain ⟨F, b, off, cap, cur, E, fr, ts, ds, h1, h2, h3, h4, h5, h6, h7, h8, h9, h10, _⟩ := h.get t
  exact ⟨b, off, cap, h1, by rw [cell_row h7]; exact h10⟩
theorem St.fill {α : Type} [Rep α] {xs : List α} {v u : Value} {k : Nat} {y : α} (h : St w0 w Is) (t : Take Is (gapA xs v k u) Js) (t2 : Take Js (ownA y [u]) Ks) : St w0 w (ownA (xs.set k y) [v] :: Ks) := by
  refine (h.take2 t t2).fuse.same fun F hF => ?_
  obtain ⟨F1, F2, ⟨b, off, cap, cur, E, fr, ts, ds, h1, h2, h3, h4, h5, h6, h7, h8, h9, h10, h11, h12, h13, h14, h15⟩, ⟨bs, p1, p2, p3, p4⟩, hd, hF⟩ := hF
  subst h1
  have hperm : ((List.range xs.length).flatMap (fun i => if i = k then bs else ds i)).Perm (bs ++ (List.range xs.length).flatMap ds) := perm_upd h11 xs.length h5
  have hmem : ∀ c, c ∈ b :: (List.range xs.length).flatMap (fun i => if i = k then bs else ds i) ↔ (c = b ∨ c ∈ bs ∨ c ∈ (List.range xs.length).flatMap ds) := fun c => by
    rw [(hperm.cons b).mem_iff, List.mem_cons, List.mem_append]
  have hdis : ∀ c ∈ b :: (List.range xs.length).flatMap ds, c ∉ bs := fun c hc hc2 => hd c ((h15 c).2 hc) ((p4 c).2 hc2)
  refine ⟨fun c => c ∈ b :: (List.range xs.length).flatMap (fun i => if i = k then bs else ds i), ⟨_, ⟨some ⟨b, off, none⟩, cap, by rw [List.length_set], by rw [List.length_set]; exact h3, h4, .inr ⟨b, off, cur, E, fr, fun i => if i = k then [u] else ts i, fun i => if i = k then bs else ds i, rfl, h2, h7, by rw [h6, Nat.mul_one]; exact h8, by rw [List.length_set], fun i hi => ?_⟩⟩, ?_, fun c hc o => ?_, fun _ => Iff.rfl⟩, fun c hc => ?_⟩
  · rw [List.length_set] at hi
    by_cases e : i = k
    · subst e
      simp only [if_true, List.getElem_set_self]
      refine ⟨p1, fun j hj => ?_⟩
      rw [h6] at hj
      obtain rfl : j = 0 := by omega
      rw [h6, Nat.mul_one, Nat.add_zero, h10]; rfl
    · simp only [if_neg e]
      rw [List.getElem_set_ne (fun h => e h.symm)]
      refine ⟨(h12 i hi e).1, fun j hj => ?_⟩
      rw [h6] at hj
      obtain rfl : j = 0 := by omega
      rw [h6, Nat.mul_one, Nat.add_zero]; exact (h12 i hi e).2
  · rw [(hperm.cons b).nodup_iff, List.nodup_cons, List.nodup_append]
    rw [List.nodup_cons] at h13
    refine ⟨fun hm => ?_, p2, h13.2, fun a ha c hc e => hdis c (List.mem_cons_of_mem _ hc) (e ▸ ha)⟩
    rcases List.mem_append.1 hm with hm | hm
    · exact hdis b (List.mem_cons_self ..) hm
    · exact h13.1 hm
  · rcases (hmem c).1 hc with rfl | hc | hc
    · exact h9 o
    · exact p3 c hc o
    · exact h14 c hc o
  · rcases (hmem c).1 hc with rfl | hc | hc
    · exact (hF c).2 (.inl ((h15 c).2 (List.mem_cons_self ..)))
    · exact (hF c).2 (.inr ((p4 c).2 hc))
    · exact (hF c).2 (.inl ((h15 c).2 (List.mem_cons_of_mem _ hc)))
end
end Go
end
section
namespace Go
open Go.RowKit
set_option linter.unusedVariables false
abbrev Mp := Int × Int × Int × Bool
def hit (m : Mp) (d v : Int) : Bool := decide (m.1 = d) && decide (m.2.1 = v)
theorem hit_iff {m : Mp} {d v : Int} : hit m d v = true ↔ m.1 = d ∧ m.2.1 = v := by simp [hit]
theorem hit_no {m : Mp} {d v : Int} : hit m d v = false ↔ ¬ (m.1 = d ∧ m.2.1 = v) := by rw [← hit_iff]; simp
def mpIdxF (d v : Int) : Nat → List Mp → Int
  | _, [] => -1
  | i, m :: l => if hit m d v then i else mpIdxF d v (i + 1) l
def mpIdx (l : List Mp) (d v : Int) : Int := mpIdxF d v 0 l
theorem mpIdxF_at {d v : Int} : ∀ (l : List Mp) (s i : Nat) (h : i < l.length), (∀ j (g : j < i), hit (l[j]'(by omega)) d v = false) → hit l[i] d v = true → mpIdxF d v s l = ((s + i : Nat) : Int)
  | m :: l, s, 0, h, _, h2 => by simp only [List.getElem_cons_zero] at h2; simp [mpIdxF, h2]
  | m :: l, s, i + 1, h, h1, h2 => by
    have h0 := h1 0 (by omega)
    simp only [List.getElem_cons_zero] at h0
    have ih := mpIdxF_at l (s + 1) i (by simpa using h) (fun j g => by have := h1 (j + 1) (by omega); simpa using this) (by simpa using h2)
    rw [mpIdxF, h0, if_neg (by simp), ih]; omega
theorem mpIdx_at {l : List Mp} {d v : Int} {i : Nat} (h : i < l.length) (h1 : ∀ j (g : j < i), hit (l[j]'(by omega)) d v = false) (h2 : hit l[i] d v = true) : mpIdx l d v = (i : Int) := by
  have := mpIdxF_at l 0 i h h1 h2; simpa [mpIdx] using this
theorem mpIdxF_no {d v : Int} : ∀ (l : List Mp) (s : Nat), (∀ j (g : j < l.length), hit l[j] d v = false) → mpIdxF d v s l = -1
  | [], _, _ => rfl
  | m :: l, s, h => by
    have h0 := h 0 (by simp)
    simp only [List.getElem_cons_zero] at h0
    rw [mpIdxF, h0, if_neg (by simp)]
    exact mpIdxF_no l (s + 1) fun j g => by have := h (j + 1) (by simpa using g); simpa using this
theorem mpIdx_no {l : List Mp} {d v : Int} (h : ∀ j (g : j < l.length), hit l[j] d v = false) : mpIdx l d v = -1 := mpIdxF_no l 0 h
theorem mp_first (l : List Mp) (d v : Int) : (∀ j (g : j < l.length), hit l[j] d v = false) ∨ ∃ i, ∃ h : i < l.length, (∀ j (g : j < i), hit (l[j]'(by omega)) d v = false) ∧ hit l[i] d v = true := by
  induction l with
  | nil => exact .inl fun j g => by simp at g
  | cons m l ih =>
    cases hm : hit m d v
    · rcases ih with h | ⟨i, h, h1, h2⟩
      · refine .inl fun j g => ?_
        cases j with
        | zero => simpa using hm
        | succ j => simpa using h j (by simpa using g)
      · refine .inr ⟨i + 1, by simpa using h, fun j g => ?_, by simpa using h2⟩
        cases j with
        | zero => simpa using hm
        | succ j => simpa using h1 j (by omega)
    · exact .inr ⟨0, by simp, fun j g => by omega, by simpa using hm⟩
def MapFine (x : Mp) : Prop := (0 ≤ x.1 ∧ x.1 ≤ 7) ∧ (0 ≤ x.2.1 ∧ x.2.1 ≤ 1023) ∧ (0 ≤ x.2.2.1 ∧ x.2.2.1 ≤ 63)
instance (x : Mp) : Decidable (MapFine x) := by unfold MapFine; exact inferInstance
def MapsOk (l : List Mp) : Prop := l.length ≤ 96 ∧ ∀ i (h : i < l.length), MapFine l[i] ∧ ∀ j (g : j < i), ¬ (l[j].1 = l[i].1 ∧ l[j].2.1 = l[i].2.1)
instance (l : List Mp) : Decidable (MapsOk l) := by unfold MapsOk; exact inferInstance
def mapsOk (l : List Mp) : Bool := decide (MapsOk l)
theorem mapsOk_iff {l : List Mp} : mapsOk l = true ↔ MapsOk l := by simp [mapsOk]
theorem mapsOk_not {l : List Mp} (h : ¬ MapsOk l) : mapsOk l = false := by simp [mapsOk, h]
theorem mpIdx_self {l : List Mp} {i : Nat} (h : i < l.length) : mpIdx l l[i].1 l[i].2.1 = (i : Int) ↔ ∀ j (g : j < i), ¬ ((l[j]'(by omega)).1 = l[i].1 ∧ (l[j]'(by omega)).2.1 = l[i].2.1) := by
  constructor
  · intro he j g hj
    rcases mp_first l l[i].1 l[i].2.1 with h1 | ⟨k, hk, h1, h2⟩
    · have := h1 i h; rw [hit_no] at this; exact this ⟨rfl, rfl⟩
    · have e2 := mpIdx_at hk h1 h2
      rw [e2] at he
      have : k = i := by omega
      subst this
      have := h1 j g
      rw [hit_no] at this
      exact this hj
  · intro hj
    exact mpIdx_at h (fun j g => hit_no.2 (hj j g)) (hit_iff.2 ⟨rfl, rfl⟩)
def mpPage (l : List Mp) (d v : Int) (wr : Bool) : Int :=
  match l.find? (fun m => hit m d v) with
  | some m => if wr && !m.2.2.2 then -1 else m.2.2.1
  | none => -1
theorem mpPage_at {l : List Mp} {d v : Int} {i : Nat} (h : i < l.length) (h1 : ∀ j (g : j < i), hit (l[j]'(by omega)) d v = false) (h2 : hit l[i] d v = true) (wr : Bool) :
    mpPage l d v wr = if wr && !l[i].2.2.2 then -1 else l[i].2.2.1 := by
  have : l.find? (fun m => hit m d v) = some l[i] := by
    rw [List.find?_eq_some_iff_getElem]
    exact ⟨h2, i, h, rfl, fun j g => by simp [h1 j g]⟩
  unfold mpPage
  rw [this]
theorem mpPage_no {l : List Mp} {d v : Int} (h : ∀ j (g : j < l.length), hit l[j] d v = false) (wr : Bool) : mpPage l d v wr = -1 := by
  have : l.find? (fun m => hit m d v) = none := by
    rw [List.find?_eq_none]
    intro x hx
    obtain ⟨j, g, rfl⟩ := List.getElem_of_mem hx
    simp [h j g]
  unfold mpPage
  rw [this]
theorem mpPage_bd {l : List Mp} (h : MapsOk l) (d v : Int) (wr : Bool) : -1 ≤ mpPage l d v wr ∧ mpPage l d v wr ≤ 63 := by
  rcases mp_first l d v with h1 | ⟨i, hi, h1, h2⟩
  · rw [mpPage_no h1]; omega
  · rw [mpPage_at hi h1 h2]
    have := (h.2 i hi).1.2.2
    split <;> omega
theorem mpPage_v {l : List Mp} (h : MapsOk l) {d v : Int} {wr : Bool} (hp : 0 ≤ mpPage l d v wr) : 0 ≤ v ∧ v ≤ 1023 := by
  rcases mp_first l d v with h1 | ⟨i, hi, h1, h2⟩
  · rw [mpPage_no h1] at hp; omega
  · have := (h.2 i hi).1.2.1
    have h3 := (hit_iff.1 h2).2
    omega
theorem mpPage_unique {l : List Mp} (h : MapsOk l) {d v : Int} {i : Nat} (hi : i < l.length) (h2 : hit l[i] d v = true) (wr : Bool) :
    mpPage l d v wr = if wr && !l[i].2.2.2 then -1 else l[i].2.2.1 := by
  refine mpPage_at hi (fun j g => ?_) h2 wr
  rw [hit_no]
  intro hj
  have h3 := hit_iff.1 h2
  exact (h.2 i hi).2 j g ⟨by rw [hj.1, h3.1], by rw [hj.2, h3.2]⟩
abbrev Pg := List ByteArray
def MemOk (ps : Pg) : Prop := ps.length ≤ 64 ∧ ∀ i (h : i < ps.length), ps[i].size = 128
instance (ps : Pg) : Decidable (MemOk ps) := by unfold MemOk; exact inferInstance
def memOk (ps : Pg) : Bool := decide (MemOk ps)
theorem memOk_iff {ps : Pg} : memOk ps = true ↔ MemOk ps := by simp [memOk]
theorem memOk_not {ps : Pg} (h : ¬ MemOk ps) : memOk ps = false := by simp [memOk, h]
def memInB (ps : Pg) (at' n : Int) : Bool := memOk ps && (decide (0 ≤ n) && decide (n ≤ 128 * (ps.length : Int)) && decide (0 ≤ at') && decide (at' ≤ 128 * (ps.length : Int) - n))
theorem memInB_iff {ps : Pg} {at' n : Int} : memInB ps at' n = true ↔ MemOk ps ∧ 0 ≤ n ∧ n ≤ 128 * (ps.length : Int) ∧ 0 ≤ at' ∧ at' ≤ 128 * (ps.length : Int) - n := by
  simp [memInB, memOk_iff, and_assoc]
def parts (l : List Mp) (np : Nat) (d : Int) (wr : Bool) (at' : Int) (n : Nat) : Option (List (Int × Int)) :=
  if hn : n = 0 then some [] else
  if at' < 0 then none else
  if mpPage l d (at' / 128) wr < 0 ∨ (np : Int) ≤ mpPage l d (at' / 128) wr then none else
  (parts l np d wr (at' + min (n : Int) (128 - at' % 128)) (n - (min (n : Int) (128 - at' % 128)).toNat)).map ((mpPage l d (at' / 128) wr * 128 + at' % 128, min (n : Int) (128 - at' % 128)) :: ·)
termination_by n
decreasing_by omega
theorem parts_zero {l : List Mp} {np : Nat} {d : Int} {wr : Bool} {at' : Int} : parts l np d wr at' 0 = some [] := by rw [parts]; rfl
theorem parts_neg {l : List Mp} {np : Nat} {d : Int} {wr : Bool} {at' : Int} {n : Nat} (hn : 0 < n) (h : at' < 0) : parts l np d wr at' n = none := by rw [parts, dif_neg (by omega), if_pos h]
theorem parts_none {l : List Mp} {np : Nat} {d : Int} {wr : Bool} {at' : Int} {n : Nat} (hn : 0 < n) (h : mpPage l d (at' / 128) wr < 0 ∨ (np : Int) ≤ mpPage l d (at' / 128) wr) : parts l np d wr at' n = none := by
  rw [parts, dif_neg (by omega)]
  split
  · rfl
  · first | rfl | rw [if_pos h]
theorem parts_some {l : List Mp} {np : Nat} {d : Int} {wr : Bool} {at' : Int} {n : Nat} (hn : 0 < n) (h0 : 0 ≤ at') (h1 : 0 ≤ mpPage l d (at' / 128) wr) (h2 : mpPage l d (at' / 128) wr < (np : Int)) {k : Nat} (hk : (k : Int) = min (n : Int) (128 - at' % 128)) :
    parts l np d wr at' n = (parts l np d wr (at' + k) (n - k)).map ((mpPage l d (at' / 128) wr * 128 + at' % 128, (k : Int)) :: ·) := by
  rw [parts, dif_neg (by omega), if_neg (by omega), if_neg (by omega), ← hk]
  rfl
def Seg (np : Nat) (r : Int × Int) : Prop := 0 ≤ r.1 ∧ 1 ≤ r.2 ∧ r.1 % 128 + r.2 ≤ 128 ∧ r.1 / 128 < (np : Int)
theorem parts_fine {l : List Mp} {np : Nat} {d : Int} {wr : Bool} : ∀ (n : Nat) (at' : Int) (rs : List (Int × Int)), parts l np d wr at' n = some rs → (∀ r ∈ rs, Seg np r) ∧ (rs.map (·.2)).sum = (n : Int) ∧ rs.length ≤ n := by
  intro n
  induction n using Nat.strongRecOn with
  | _ n ih =>
    intro at' rs h
    by_cases hn : n = 0
    · subst hn; rw [parts_zero] at h; cases h; simp
    · by_cases h0 : at' < 0
      · rw [parts_neg (by omega) h0] at h; cases h
      · by_cases h1 : mpPage l d (at' / 128) wr < 0 ∨ (np : Int) ≤ mpPage l d (at' / 128) wr
        · rw [parts_none (by omega) h1] at h; cases h
        · obtain ⟨k, hk⟩ : ∃ k : Nat, (k : Int) = min (n : Int) (128 - at' % 128) := ⟨(min (n : Int) (128 - at' % 128)).toNat, by omega⟩
          rw [parts_some (by omega) (by omega) (by omega) (by omega) hk] at h
          cases hp : parts l np d wr (at' + k) (n - k) with
          | none => rw [hp] at h; cases h
          | some qs =>
            rw [hp] at h
            simp only [Option.map_some, Option.some.injEq] at h
            subst h
            obtain ⟨i1, i2, i3⟩ := ih (n - k) (by omega) _ _ hp
            refine ⟨fun r hr => ?_, ?_, ?_⟩
            · rcases List.mem_cons.1 hr with rfl | hr
              · refine ⟨?_, ?_, ?_, ?_⟩ <;> simp only <;> omega
              · exact i1 r hr
            · simp only [List.map_cons, List.sum_cons, i2]; omega
            · simp only [List.length_cons]; omega
def runsOk (l : List Mp) (ps : Pg) (n : Int) : Bool := mapsOk l && (memOk ps && inB n 0 4096)
def runs (l : List Mp) (ps : Pg) (d at' n : Int) (wr : Bool) : Option (List (Int × Int)) := if runsOk l ps n then parts l ps.length d wr at' n.toNat else none
theorem runs_fine {l : List Mp} {ps : Pg} {d at' n : Int} {wr : Bool} {rs : List (Int × Int)} (h : runs l ps d at' n wr = some rs) : MapsOk l ∧ MemOk ps ∧ (0 ≤ n ∧ n ≤ 4096) ∧ (∀ r ∈ rs, Seg ps.length r) ∧ (rs.map (·.2)).sum = n ∧ rs.length ≤ 4096 := by
  unfold runs at h
  split at h
  · rename_i hc
    simp only [runsOk, Bool.and_eq_true, mapsOk_iff, memOk_iff, inB_iff] at hc
    obtain ⟨h1, h2, h3⟩ := hc
    obtain ⟨i1, i2, i3⟩ := parts_fine _ _ _ h
    exact ⟨h1, h2, h3, i1, by rw [i2]; omega, by omega⟩
  · cases h
def pageAt (ps : Pg) (a : Int) : ByteArray := ps.getD (a / 128).toNat ⟨#[]⟩
def putB (s : ByteArray) (at' : Nat) (p : ByteArray) : ByteArray := s.extract 0 at' ++ p ++ s.extract (at' + p.size) s.size
def writeSeg (ps : Pg) (a : Int) (b : ByteArray) : Pg := ps.set (a / 128).toNat (putB (pageAt ps a) (a % 128).toNat b)
def writeAll : Pg → List (Int × Int) → ByteArray → Pg
  | ps, [], _ => ps
  | ps, r :: rs, s => writeAll (writeSeg ps r.1 (s.extract 0 r.2.toNat)) rs (s.extract r.2.toNat s.size)
def dmaW (l : List Mp) (ps : Pg) (d at' : Int) (s : ByteArray) (wr : Bool) : Option Pg := (runs l ps d at' s.size wr).map fun rs => writeAll ps rs s
theorem putB_size {s : ByteArray} {a : Nat} {p : ByteArray} (h : a + p.size ≤ s.size) : (putB s a p).size = s.size := by
  unfold putB; rw [ByteArray.size_append, ByteArray.size_append, ByteArray.size_extract, ByteArray.size_extract]; omega
theorem MemOk.page {ps : Pg} (h : MemOk ps) {a : Int} (h0 : 0 ≤ a) (h1 : a / 128 < (ps.length : Int)) : ∃ g : (a / 128).toNat < ps.length, pageAt ps a = ps[(a / 128).toNat] ∧ (pageAt ps a).size = 128 := by
  have g : (a / 128).toNat < ps.length := by omega
  have e : pageAt ps a = ps[(a / 128).toNat] := by unfold pageAt; rw [List.getD_eq_getElem?_getD, List.getElem?_eq_getElem g]; rfl
  exact ⟨g, e, by rw [e]; exact h.2 _ g⟩
theorem MemOk.writeSeg {ps : Pg} (h : MemOk ps) {a : Int} {b : ByteArray} (h0 : 0 ≤ a) (h1 : a / 128 < (ps.length : Int)) (h2 : a % 128 + b.size ≤ 128) : MemOk (writeSeg ps a b) ∧ (Go.writeSeg ps a b).length = ps.length := by
  obtain ⟨g, e, he⟩ := h.page h0 h1
  have hl : (Go.writeSeg ps a b).length = ps.length := by unfold Go.writeSeg; rw [List.length_set]
  refine ⟨⟨by rw [hl]; exact h.1, fun i hi => ?_⟩, hl⟩
  rw [hl] at hi
  simp only [Go.writeSeg, List.getElem_set]
  split
  · rw [putB_size (by rw [he]; omega), he]
  · exact h.2 i hi
def Fits (np : Nat) (rs : List (Int × Int)) (n : Nat) : Prop := (∀ r ∈ rs, Seg np r) ∧ (rs.map (·.2)).sum = (n : Int)
theorem Fits.cons {np : Nat} {r : Int × Int} {rs : List (Int × Int)} {n : Nat} (h : Fits np (r :: rs) n) : Seg np r ∧ r.2 ≤ n ∧ Fits np rs (n - r.2.toNat) := by
  obtain ⟨h1, h2⟩ := h
  have h3 := h1 r (List.mem_cons_self ..)
  have h4 : ∀ q ∈ rs, 0 ≤ q.2 := fun q hq => by have := (h1 q (List.mem_cons_of_mem _ hq)).2.1; omega
  have h5 : 0 ≤ (rs.map (·.2)).sum := by
    clear h1 h2 h3
    induction rs with
    | nil => simp
    | cons q rs ih =>
      have := ih fun x hx => h4 x (List.mem_cons_of_mem _ hx)
      have := h4 q (List.mem_cons_self ..)
      simp only [List.map_cons, List.sum_cons]; omega
  simp only [List.map_cons, List.sum_cons] at h2
  have := h3.2.1
  exact ⟨h3, by omega, fun q hq => h1 q (List.mem_cons_of_mem _ hq), by omega⟩
theorem writeAll_ok : ∀ (rs : List (Int × Int)) (ps : Pg) (s : ByteArray), MemOk ps → Fits ps.length rs s.size → MemOk (writeAll ps rs s) ∧ (writeAll ps rs s).length = ps.length
  | [], ps, s, h, _ => ⟨h, rfl⟩
  | r :: rs, ps, s, h, hf => by
    obtain ⟨h1, h2, h3⟩ := hf.cons
    obtain ⟨g0, g1, g2, g3⟩ := h1
    have e : (s.extract 0 r.2.toNat).size = r.2.toNat := by rw [ByteArray.size_extract]; omega
    obtain ⟨k1, k2⟩ := h.writeSeg (a := r.1) (b := s.extract 0 r.2.toNat) g0 g3 (by rw [e]; omega)
    have e2 : (s.extract r.2.toNat s.size).size = s.size - r.2.toNat := by rw [ByteArray.size_extract]; omega
    have := writeAll_ok rs (writeSeg ps r.1 (s.extract 0 r.2.toNat)) (s.extract r.2.toNat s.size) k1 (by rw [k2, e2]; exact h3)
    rw [writeAll, this.2, k2]
    exact ⟨this.1, rfl⟩
theorem dmaW_ok {l : List Mp} {ps : Pg} {d at' : Int} {s : ByteArray} {wr : Bool} {qs : Pg} (h : dmaW l ps d at' s wr = some qs) : MemOk qs ∧ qs.length = ps.length ∧ MemOk ps ∧ MapsOk l ∧ s.size ≤ 4096 := by
  unfold dmaW at h
  cases hr : runs l ps d at' s.size wr with
  | none => rw [hr] at h; cases h
  | some rs =>
    rw [hr] at h
    simp only [Option.map_some, Option.some.injEq] at h
    subst h
    obtain ⟨h1, h2, h3, h4, h5, h6⟩ := runs_fine hr
    obtain ⟨k1, k2⟩ := writeAll_ok rs ps s h2 ⟨h4, h5⟩
    exact ⟨k1, k2, h2, h1, by omega⟩
def mpOpen (l : List Mp) : List Mp := l.map fun m => (m.1, m.2.1, m.2.2.1, true)
theorem mpOpen_length (l : List Mp) : (mpOpen l).length = l.length := by simp [mpOpen]
theorem mpOpen_get {l : List Mp} {i : Nat} (h : i < (mpOpen l).length) : (mpOpen l)[i] = ((l[i]'(by simpa [mpOpen] using h)).1, (l[i]'(by simpa [mpOpen] using h)).2.1, (l[i]'(by simpa [mpOpen] using h)).2.2.1, true) := by simp [mpOpen]
theorem mapsOk_open (l : List Mp) : mapsOk (mpOpen l) = mapsOk l := by
  rw [Bool.eq_iff_iff, mapsOk_iff, mapsOk_iff]
  unfold MapsOk
  constructor
  · rintro ⟨h1, h2⟩
    rw [mpOpen_length] at h1
    refine ⟨h1, fun i hi => ?_⟩
    have := h2 i (by rw [mpOpen_length]; exact hi)
    simp only [mpOpen_get] at this
    exact this
  · rintro ⟨h1, h2⟩
    refine ⟨by rw [mpOpen_length]; exact h1, fun i hi => ?_⟩
    simp only [mpOpen_get]
    exact h2 i (by rw [mpOpen_length] at hi; exact hi)
theorem mpPage_open (l : List Mp) (d v : Int) : mpPage (mpOpen l) d v true = mpPage l d v false := by
  have e : (mpOpen l).find? (fun m => hit m d v) = (l.find? (fun m => hit m d v)).map fun m => (m.1, m.2.1, m.2.2.1, true) := by
    unfold mpOpen; rw [List.find?_map]; rfl
  unfold mpPage
  rw [e]
  cases l.find? (fun m => hit m d v) <;> rfl
theorem parts_open {l : List Mp} {np : Nat} {d : Int} : ∀ (n : Nat) (at' : Int), parts (mpOpen l) np d true at' n = parts l np d false at' n := by
  intro n
  induction n using Nat.strongRecOn with
  | _ n ih =>
    intro at'
    rw [parts, parts.eq_def (l := l), mpPage_open]
    split
    · rfl
    · split
      · rfl
      · split
        · rfl
        · rw [ih _ (by omega)]
theorem dmaW_open (l : List Mp) (ps : Pg) (d at' : Int) (s : ByteArray) : dmaW (mpOpen l) ps d at' s true = dmaW l ps d at' s false := by
  unfold dmaW runs runsOk
  rw [mapsOk_open, parts_open]
end Go
end
section
namespace Go
open Go.RowKit
set_option linter.unusedVariables false
section
variable {α : Type} [Rep α] [Flat α]
theorem Holds.fl {w : World} {xs : List α} {v : Value} (h : Holds w xs [v]) : ∃ A cap, v = .slice A xs.length cap ∧ xs.length ≤ cap ∧ cap ≤ maxLen := by
  obtain ⟨a, cap, hv, h1, h2, _⟩ := h.flat
  simp only [List.cons.injEq, and_true] at hv
  exact ⟨a, cap, hv, h1, h2⟩
end
section
variable {P : Program} {ops : Array Oper} {rest : List Oper} {o : Oper} {a : Act} {w w0 : World} {Q : Exit → Act → World → Prop} {Is Js : List Asn} {K : Act → World → Prop}
def bytA (b : Nat) (s : ByteArray) : Asn where
  P w F := (∃ cur E fr, w.heap[b]? = some (.cells cur E fr) ∧ s.size ≤ cur.size ∧ (∀ j, j < s.size → cur[j]? = (byteCells s)[j]?) ∧ ∀ j, j < s.size → w.frozen? ⟨b, j, none⟩ = false) ∧ ∀ c, F c ↔ c = b
  stable := by
    rintro w w' F ⟨⟨cur, E, fr, h1, h2, h3, h4⟩, h5⟩ hs
    have e := hs b ((h5 b).2 rfl)
    exact ⟨⟨cur, E, fr, e.trans h1, h2, h3, fun j hj => by rw [World.frozen?_of_block (w := w) e]; exact h4 j hj⟩, h5⟩
  lt := by
    rintro w F ⟨⟨cur, E, fr, h1, _⟩, h5⟩ b' hb
    rw [(h5 b').1 hb]; exact row_lt h1
theorem cutA_lt {b off l cap sz : Nat} (h : l < cap) : cutA (some ⟨b, off, none⟩) l cap sz = some ⟨b, off + l * sz, none⟩ := by
  unfold cutA
  rw [if_neg (by omega), Option.map_some, addr_add]
theorem byteCells_get (s : ByteArray) (j : Nat) (h : j < s.size) : (byteCells s)[j]? = some (.int .u8 (s[j].toNat : Int)) := by
  unfold byteCells
  rw [List.getElem?_map, Array.getElem?_toList, Array.getElem?_eq_getElem (by simpa using h)]
  rfl
theorem wp_bytes_st (T : TypeId) (tS : TypeId) (x : Operand) (ho : o.op = .convert tS T x) (e : TypeId) (hs : P.underlying tS = some .string) (hd : P.underlying T = some (.slice e)) (he : P.underlying e = some (.int .u8)) {s : ByteArray} (hx : a.eval x = .string s) (hS : St w0 w Is)
    (h : ∀ w' b C, w.heap.size = b → s.size ≤ C → St w0 w' (bytA b s :: Is) → K (a.put o.dst (.slice (some ⟨b, 0, none⟩) s.size C)) w') : o.wp P a w K Q := by
  have hr := run_bytes_of_string (P := P) w tS T e s hs hd he
  have hc := grownCap_ge w s.size 0 e
  have hsz : (bytesRow s (grownCap w s.size 0 e)).size = grownCap w s.size 0 e := by
    unfold bytesRow; rw [Array.size_append, Array.size_map, Array.size_replicate, show s.data.size = s.size from rfl]; omega
  unfold Oper.wp execOp
  simp only [ho, hx, Sem.run_bind, hr, Result.andThen_ok, Sem.run_pure]
  refine h _ _ _ rfl hc (hS.add (((Ex.refl w).drew).alloc _) (F := fun c => c = w.heap.size) ⟨⟨_, _, _, row_alloc w.drew _, ?_, fun j hj => ?_, fun j hj => ?_⟩, fun _ => Iff.rfl⟩ fun b hb => by omega)
  · rw [hsz]; exact hc
  · unfold bytesRow
    rw [Array.getElem?_append_left (by rw [Array.size_map]; exact hj), byteCells_get s j hj, Array.getElem?_map, Array.getElem?_eq_getElem (show j < s.data.size from hj)]
    rfl
  · unfold World.frozen?
    have : (w.drew.alloc (.cells (bytesRow s (grownCap w s.size 0 e)) e ((bytesRow s (grownCap w s.size 0 e)).size, (bytesRow s (grownCap w s.size 0 e)).size + 1))).heap[w.heap.size]? = _ := row_alloc w.drew _
    rw [this]
    simp
    omega
theorem byteCells_append (s t : ByteArray) : byteCells (s ++ t) = byteCells s ++ byteCells t := by simp [byteCells, ByteArray.data_append]
theorem byteCells_extract (s : ByteArray) (i j : Nat) : byteCells (s.extract i j) = ((byteCells s).take j).drop i := by
  simp [byteCells, ByteArray.data_extract, List.drop_take]
theorem putB_byteCells {s p : ByteArray} {r : Nat} (h : r + p.size ≤ s.size) (j : Nat) (hj : j < s.size) : (byteCells (putB s r p))[j]? = if r ≤ j ∧ j < r + p.size then (byteCells p)[j - r]? else (byteCells s)[j]? := by
  have l1 := byteCells_length s
  have l2 := byteCells_length p
  unfold putB
  rw [byteCells_append, byteCells_append, byteCells_extract, byteCells_extract]
  have l3 : (((byteCells s).take r).drop 0).length = r := by simp [l1]; omega
  rw [List.append_assoc, List.getElem?_append, l3]
  split
  · rw [if_neg (by omega), List.drop_zero, List.getElem?_take, if_pos (by omega)]
  · rw [List.getElem?_append, l2]
    split
    · rw [if_pos (by omega)]
    · rw [if_neg (by omega), List.getElem?_drop, List.getElem?_take, if_pos (by omega)]
      congr 1; omega
theorem St.putBytes {b r : Nat} {s p : ByteArray} (h : St w0 w Is) (t : Take Is (bytA b s) Js) (hl : r + p.size ≤ s.size) : St w0 (w.setCells b r (byteCells p)) (bytA b (putB s r p) :: Js) := by
  obtain ⟨r1, r2, r3, r4, r5⟩ := setCells_rest (byteCells p) w b r
  refine (h.take t).turn r1 r2 r3 (Nat.le_of_eq r4.symm) fun F hF => ?_
  obtain ⟨⟨cur, E, fr, h1, h2, h3, h4⟩, h5⟩ := hF
  refine ⟨fun c _ hc => r5 c fun e => hc ((h5 c).2 e), F, ⟨⟨nicRow cur r (byteCells p), E, fr, row_setCells _ _ _ _ _ _ _ h1, ?_, fun j hj => ?_, fun j hj => ?_⟩, h5⟩, fun c hc => .inl hc⟩
  · rw [nicRow_size, putB_size hl]; exact h2
  · rw [putB_size hl] at hj
    rw [putB_byteCells hl j hj]
    have e := nic_eq cur.toList (byteCells p) r (by rw [byteCells_length, Array.length_toList]; omega)
    rw [show cur.toList.toArray = cur from rfl] at e
    rw [e, List.getElem?_toArray, nicL_in _ _ _ _ (by rw [byteCells_length, Array.length_toList]; omega), byteCells_length]
    split
    · rfl
    · rw [Array.getElem?_toList]; exact h3 j hj
  · rw [putB_size hl] at hj
    have := h4 j hj
    unfold World.frozen? at this ⊢
    rw [row_setCells _ _ _ _ _ _ _ h1]
    rw [h1] at this
    exact this
theorem wp_copyS_st (d x : Operand) (dT sT : TypeId) (ho : o.op = .call { callee := .builtin .copy, args := #[d, x], argTypes := #[dT, sT] }) (elem : TypeId) (hu : P.underlying dT = some (.slice elem)) {z : Value} {bytes : Nat} (hi : infoT P elem z 1 bytes)
    {b r m c : Nat} (hd : a.eval d = .slice (some ⟨b, r, none⟩) m c) {p : ByteArray} (hx : a.eval x = .string p) (hm : p.size ≤ m) {s : ByteArray} (hs : St w0 w Is) (t : Take Is (bytA b s) Js) (hl : r + p.size ≤ s.size)
    (h : ∀ w', St w0 w' (bytA b (putB s r p) :: Js) → K (a.put o.dst (.int .i64 (p.size : Int))) w') : o.wp P a w K Q := by
  obtain ⟨i, hi1, hi2⟩ := Option.map_eq_some_iff.1 hi.1
  simp only [Prod.mk.injEq] at hi2
  obtain ⟨_, hi3, _⟩ := hi2
  have hz : ∀ w, (Go.sizeOf elem).run P w = .ok 1 w := fun w => by simp [sizeOf, typeInfo, hi1, hi3]
  obtain ⟨F, ⟨cur, E, fr, h1, h2, h3, h4⟩, h5⟩ := hs.get t
  have hr := run_copy_string (P := P) w dT sT o.type elem b r m c p hu hz hm (fun j hj => by rw [cell_row h1, Array.getElem?_eq_getElem (by omega)]; rfl) (fun j hj => h4 _ (by omega))
  unfold Oper.wp execOp
  simp only [ho, resolve, invoke, builtin, Sem.run_bind, Sem.run_pure, Result.andThen_ok, List.map_toArray, List.map_cons, List.map_nil, hd, hx, hr]
  exact h _ (hs.putBytes t hl)
theorem byteCells_list (s : ByteArray) : byteCells s = s.data.toList.map fun b => Value.int .u8 (b.toNat : Int) := rfl
theorem wp_back_st (src dst : TypeId) (x : Operand) (ho : o.op = .convert src dst x) (e : TypeId) (hs : P.underlying src = some (.slice e)) (he : P.underlying e = some (.int .u8)) (hd : P.underlying dst = some .string) {b n c : Nat} {s : ByteArray} (hx : a.eval x = .slice (some ⟨b, 0, none⟩) n c)
    (hS : St w0 w Is) (t : Take Is (bytA b s) Js) (hn : n = s.size) (hK : K (a.put o.dst (.string s)) w) : o.wp P a w K Q := by
  subst hn
  obtain ⟨F, ⟨cur, E, fr, h1, h2, h3, h4⟩, h5⟩ := hS.get t
  have hr := run_convert_bytes_back (P := P) w src dst e ⟨b, 0, none⟩ c s.data.toList hs he hd (fun j hj => by
    have hj' : j < s.size := by simpa using hj
    rw [addr_add, cell_row h1, Nat.zero_add, h3 j hj', byteCells_get s j hj']
    simp; rfl)
  rw [show s.data.toList.length = s.size from Array.length_toList] at hr
  unfold Oper.wp execOp
  simp only [ho, hx, Sem.run_bind, hr, Result.andThen_ok, Sem.run_pure]
  exact hK
theorem wpList_back_st (hw : Region.wanted o (yielded ops a.tmps) = true) (src dst : TypeId) (x : Operand) (ho : o.op = .convert src dst x) (e : TypeId) (hs : P.underlying src = some (.slice e)) (he : P.underlying e = some (.int .u8)) (hd : P.underlying dst = some .string) {b n c : Nat} {s : ByteArray} (hx : a.eval x = .slice (some ⟨b, 0, none⟩) n c)
    (hS : St w0 w Is) (t : Take Is (bytA b s) Js) (hn : n = s.size) (h : wpList P ops Q rest (a.put o.dst (.string s)) w) : wpList P ops Q (o :: rest) a w :=
  wpList_wanted hw fun _ hK => wp_back_st src dst x ho e hs he hd hx hS t hn (hK _ _ h)
theorem wp_backS_st (src dst : TypeId) (x : Operand) (ho : o.op = .convert src dst x) (e : TypeId) (hs : P.underlying src = some (.slice e)) (he : P.underlying e = some (.int .u8)) (hd : P.underlying dst = some .string) {n : Nat} {v : Value} {s : ByteArray} {E : TypeId} (hx : a.eval x = v)
    (hS : St w0 w Is) (t : Take Is (slotA E 1 v n (byteCells s)) Js) (hK : K (a.put o.dst (.string s)) w) : o.wp P a w K Q := by
  obtain ⟨h1, h2⟩ := hS.slot t
  have hn : n = s.size := by rw [byteCells_length] at h1; omega
  have hr : (convert src dst v).run P w = .ok (.string s) w := by
    rcases h2 with ⟨rfl, h0⟩ | ⟨b, off, cap, cur, rfl, _, hb, k1, k2, k3, k4⟩
    · rw [run_convert_bytes_nil (P := P) w src e hs he 0 0 dst hd]
      have : s = ByteArray.empty := ByteArray.ext (Array.eq_empty_of_size_eq_zero (show s.data.size = 0 from by have : s.data.size = s.size := rfl; omega))
      rw [this]
    · subst hn
      have := run_convert_bytes_back (P := P) w src dst e ⟨b, off, none⟩ cap s.data.toList hs he hd (fun j hj => by
        have hj' : j < s.size := by simpa using hj
        rw [addr_add, cell_row hb, k4 j (by omega), byteCells_get s j hj']
        simp; rfl)
      rw [show s.data.toList.length = s.size from Array.length_toList] at this
      rw [this]
  unfold Oper.wp execOp
  simp only [ho, hx, Sem.run_bind, hr, Result.andThen_ok, Sem.run_pure]
  exact hK
theorem pure_cutLoA (t : TypeId) (x y : Operand) (ho : o.op = .slice t x (some y) none none) (e : TypeId) {z : Value} {sz bytes : Nat} (ht : P.underlying t = some (.slice e)) (hi : infoT P e z sz bytes) {b off n cap l : Nat}
    (hx : a.eval x = .slice (some ⟨b, off, none⟩) n cap) (hy : a.eval y = .int .i64 (l : Int)) (hh : l ≤ n) (hc : l < cap) : PureOp P o a (.slice (some ⟨b, off + l * sz, none⟩) (n - l) (cap - l)) := by
  have := pure_cutLo t x y ho e ht hi hx hy hh
  rwa [cutA_lt hc] at this
end
end Go
end
section
namespace Go.Vc
open Go Go.RowKit
set_option linter.unusedVariables false
set_option linter.unusedSimpArgs false
set_option linter.unnecessarySimpa false
set_option linter.unusedSectionVars false
structure RdP where
  P : World → Value → Prop
  ex : ∀ {w w' : World} {u : Value}, P w u → Ex w w' → P w' u
  one : ∀ {w : World} {u : Value}, P w u → u.oneCell' = true
structure OwP where
  A : Value → Asn
  Q : RdP
  rd : ∀ {w : World} {F : Nat → Prop} {v : Value}, (A v).P w F → Q.P w v
inductive PV where
  | v (x : Value)
  | nil
  | sl (sz : Nat) (es : List (List Value))
  | hs (k : Nat)
  | rp (k o : Nat)
  | ptr (k i sz o : Nat)
  | ep (sz : Nat) (es : List (List Value)) (i o : Nat)
  | hv (k i : Nat)
  | hc (k l sz : Nat)
  | rd (Q : RdP)
  | junk
inductive AV where
  | one (p : PV)
  | agg (ps : List PV)
  | tup (vs : List AV)
  | junk
inductive Blk where
  | row (T : TypeId) (cs : List PV)
  | arr (E : TypeId) (sz : Nat) (es : List (List Value))
  | byt (s : ByteArray)
  | own (A : OwP)
  | dead
abbrev Tm := List (Nat × AV)
abbrev Hp := List (Nat × Blk)
def gt : Tm → Nat → AV
  | [], _ => .junk
  | (d, v) :: t, n => if d = n then v else gt t n
def lk : Hp → Nat → Option Blk
  | [], _ => none
  | (d, v) :: t, n => if d = n then some v else lk t n
def upd1 (k : Nat) (b : Blk) : Hp → Hp
  | [] => [(k, b)]
  | (d, v) :: t => if d = k then (d, b) :: t else (d, v) :: upd1 k b t
def updH : Hp → Hp → Hp
  | H, [] => H
  | H, (k, b) :: δ => updH (upd1 k b H) δ
def dom (H : Hp) (k : Nat) : Prop := (lk H k).isSome = true
inductive F2 {α β : Type} (r : α → β → Prop) : List α → List β → Prop
  | nil : F2 r [] []
  | cons {a b l m} : r a b → F2 r l m → F2 r (a :: l) (b :: m)
theorem F2.len {α β : Type} {r : α → β → Prop} {l : List α} {m : List β} (h : F2 r l m) : l.length = m.length := by induction h <;> simp_all
theorem F2.get {α β : Type} {r : α → β → Prop} {l : List α} {m : List β} (h : F2 r l m) : ∀ {i : Nat} {x : α}, l[i]? = some x → ∃ y, m[i]? = some y ∧ r x y := by
  induction h with
  | nil => intro i x h; cases h
  | cons h _ ih =>
    intro i x hx
    cases i with
    | zero => simp at hx; subst hx; exact ⟨_, rfl, h⟩
    | succ i => simp at hx; simpa using ih hx
theorem F2.mono {α β : Type} {r s : α → β → Prop} {l : List α} {m : List β} (h : F2 r l m) (k : ∀ a b, a ∈ l → r a b → s a b) : F2 s l m := by
  induction h with
  | nil => exact .nil
  | cons h _ ih => exact .cons (k _ _ (List.mem_cons_self ..) h) (ih fun a b ha => k a b (List.mem_cons_of_mem _ ha))
theorem F2.app {α β : Type} {r : α → β → Prop} {l l' : List α} {m m' : List β} (h : F2 r l m) (k : F2 r l' m') : F2 r (l ++ l') (m ++ m') := by
  induction h with
  | nil => exact k
  | cons h _ ih => exact .cons h ih
theorem F2.drop {α β : Type} {r : α → β → Prop} {l : List α} {m : List β} (h : F2 r l m) : ∀ n, F2 r (l.drop n) (m.drop n) := by
  induction h with
  | nil => intro n; simp; exact .nil
  | cons h k ih => intro n; cases n with
    | zero => exact .cons h k
    | succ n => exact ih n
theorem F2.take {α β : Type} {r : α → β → Prop} {l : List α} {m : List β} (h : F2 r l m) : ∀ n, F2 r (l.take n) (m.take n) := by
  induction h with
  | nil => intro n; simp; exact .nil
  | cons h k ih => intro n; cases n with
    | zero => exact .nil
    | succ n => exact .cons h (ih n)
def deadA : Asn where
  P _ F := ∀ b, ¬ F b
  stable h _ := h
  lt h b hb := (h b hb).elim
def base : Value → Option (Nat × Nat)
  | .pointer (some ⟨b, o, none⟩) => some (b, o)
  | .slice (some ⟨b, o, none⟩) _ _ => some (b, o)
  | _ => none
def Cel (w : World) (a : Option Addr) (sz : Nat) (es : List (List Value)) : Prop :=
  (∀ e ∈ es, e.length = sz ∧ e.all (·.oneCell') = true) ∧ (es ≠ [] → ∃ b off, a = some ⟨b, off, none⟩ ∧ ∀ i e, es[i]? = some e → ∀ j, j < sz → w.cell? ⟨b, off + i * sz + j, none⟩ = e[j]?)
def RB (w : World) : PV → Value → Prop
  | .v x, u => u = x ∧ x.oneCell' = true
  | .nil, u => u = .slice none 0 0
  | .sl sz es, u => ∃ a cap, u = .slice a es.length cap ∧ es.length ≤ cap ∧ cap ≤ maxLen ∧ Cel w a sz es
  | .ep sz es i o, u => ∃ b off, u = .pointer (some ⟨b, off + i * sz + o, none⟩) ∧ Cel w (some ⟨b, off, none⟩) sz es
  | .rd Q, u => Q.P w u
  | .junk, u => u.oneCell' = true
  | _, _ => False
def R (w0 : World) (D : Nat → Prop) (ρ : Nat → Value) : PV → Value → Prop
  | .hs k, u => D k ∧ u = ρ k ∧ u.oneCell' = true
  | .rp k o, u => D k ∧ ∃ b, ρ k = .pointer (some ⟨b, 0, none⟩) ∧ u = .pointer (some ⟨b, o, none⟩)
  | .ptr k i sz o, u => D k ∧ ∃ b off, base (ρ k) = some (b, off) ∧ u = .pointer (some ⟨b, off + i * sz + o, none⟩)
  | .hv k i, u => D k ∧ ∃ b n C, ρ k = .slice (some ⟨b, 0, none⟩) n C ∧ u = .slice (some ⟨b, i, none⟩) (n - i) (C - i)
  | .hc k l sz, u => D k ∧ ∃ a n C, ρ k = .slice a n C ∧ u = .slice (cutA a l C sz) (n - l) (C - l)
  | p, u => RB w0 p u
def AR1 (w0 : World) (D : Nat → Prop) (ρ : Nat → Value) : AV → Value → Prop
  | .one p, u => R w0 D ρ p u
  | .agg ps, u => ∃ us : List Value, u = .agg us.toArray ∧ F2 (R w0 D ρ) ps us
  | .tup _, _ => False
  | .junk, _ => True
def AR (w0 : World) (D : Nat → Prop) (ρ : Nat → Value) : AV → Value → Prop
  | .tup vs, u => ∃ us : List Value, u = .tuple us.toArray ∧ F2 (AR1 w0 D ρ) vs us
  | x, u => AR1 w0 D ρ x u
def BR (w0 : World) (D : Nat → Prop) (ρ : Nat → Value) : Nat × Blk → Asn → Prop
  | (k, .row T cs), A => ∃ b us, ρ k = .pointer (some ⟨b, 0, none⟩) ∧ F2 (R w0 D ρ) cs us ∧ A = rowA b us T
  | (k, .byt s), A => ∃ b C, ρ k = .slice (some ⟨b, 0, none⟩) s.size C ∧ s.size ≤ C ∧ A = bytA b s
  | (k, .dead), A => A = deadA
  | (k, .own X), A => A = X.A (ρ k)
  | (k, .arr E sz es), A => (∀ e ∈ es, e.length = sz ∧ e.all (·.oneCell') = true) ∧ A = slotA E sz (ρ k) es.length es.flatten
structure Rel (w0 w : World) (ρ : Nat → Value) (n : Nat) (t : Tm) (H : Hp) (a : Act) : Prop where
  sz : a.tmps.size = n
  df : a.defers = []
  tm : ∀ k, AR w0 (dom H) ρ (gt t k) (a.tmps.getD k undef)
  hp : ∃ As, F2 (BR w0 (dom H) ρ) H As ∧ St w0 w As
  nd : (H.map (·.1)).Nodup
theorem Cel.ex {w w' : World} {a : Option Addr} {sz : Nat} {es : List (List Value)} (h : Cel w a sz es) (hx : Ex w w') : Cel w' a sz es := by
  refine ⟨h.1, fun hne => ?_⟩
  obtain ⟨b, off, e1, e2⟩ := h.2 hne
  refine ⟨b, off, e1, fun i e he j hj => ?_⟩
  have h3 := e2 i e he j hj
  have hl := (h.1 e (List.mem_of_getElem? he)).1
  rw [List.getElem?_eq_getElem (by omega)] at h3
  rw [hx.cell (p := ⟨b, off + i * sz + j, none⟩) (by
    rcases Nat.lt_or_ge b w.heap.size with hb | hb
    · exact hb
    · simp [World.cell?, Array.getElem?_eq_none hb] at h3), h3, List.getElem?_eq_getElem (by omega)]
theorem RB.ex {w w' : World} {p : PV} {u : Value} (h : RB w p u) (hx : Ex w w') : RB w' p u := by
  cases p with
  | sl sz es => obtain ⟨a, cap, h1, h2, h3, h4⟩ := h; exact ⟨a, cap, h1, h2, h3, h4.ex hx⟩
  | ep sz es i o => obtain ⟨b, off, h1, h4⟩ := h; exact ⟨b, off, h1, h4.ex hx⟩
  | rd Q => exact Q.ex h hx
  | _ => exact h
theorem R.one {w0 : World} {D : Nat → Prop} {ρ : Nat → Value} {p : PV} {u : Value} (h : R w0 D ρ p u) : u.oneCell' = true := by
  cases p with
  | v x => obtain ⟨rfl, h⟩ := h; exact h
  | nil => cases h; rfl
  | sl sz es => obtain ⟨a, cap, rfl, _⟩ := h; rfl
  | ep sz es i o => obtain ⟨b, off, rfl, _⟩ := h; rfl
  | hs k => exact h.2.2
  | rp k o => obtain ⟨_, b, _, rfl⟩ := h; rfl
  | ptr k i sz o => obtain ⟨_, b, off, _, rfl⟩ := h; rfl
  | hv k i => obtain ⟨_, b, n, C, _, rfl⟩ := h; rfl
  | hc k l sz => obtain ⟨_, a, n, C, _, rfl⟩ := h; rfl
  | rd Q => exact Q.one h
  | junk => exact h
theorem R.ext {w0 : World} {D D' : Nat → Prop} {ρ ρ' : Nat → Value} (hD : ∀ k, D k → D' k ∧ ρ' k = ρ k) {p : PV} {u : Value} (h : R w0 D ρ p u) : R w0 D' ρ' p u := by
  cases p with
  | hs k => obtain ⟨h1, h2, h3⟩ := h; exact ⟨(hD k h1).1, by rw [(hD k h1).2]; exact h2, h3⟩
  | rp k o => obtain ⟨h1, b, h2, h3⟩ := h; exact ⟨(hD k h1).1, b, by rw [(hD k h1).2]; exact h2, h3⟩
  | ptr k i sz o => obtain ⟨h1, b, off, h2, h3⟩ := h; exact ⟨(hD k h1).1, b, off, by rw [(hD k h1).2]; exact h2, h3⟩
  | hv k i => obtain ⟨h1, b, n, C, h2, h3⟩ := h; exact ⟨(hD k h1).1, b, n, C, by rw [(hD k h1).2]; exact h2, h3⟩
  | hc k l sz => obtain ⟨h1, a, n, C, h2, h3⟩ := h; exact ⟨(hD k h1).1, a, n, C, by rw [(hD k h1).2]; exact h2, h3⟩
  | _ => exact h
theorem R.of_rb {w0 : World} {D : Nat → Prop} {ρ : Nat → Value} {p : PV} {u : Value} (h : RB w0 p u) : R w0 D ρ p u := by
  cases p <;> first | exact h | exact h.elim
theorem AR1.ext {w0 : World} {D D' : Nat → Prop} {ρ ρ' : Nat → Value} (hD : ∀ k, D k → D' k ∧ ρ' k = ρ k) {p : AV} {u : Value} (h : AR1 w0 D ρ p u) : AR1 w0 D' ρ' p u := by
  cases p with
  | one p => exact R.ext hD h
  | agg ps => obtain ⟨us, h1, h2⟩ := h; exact ⟨us, h1, h2.mono fun _ _ _ => R.ext hD⟩
  | tup vs => exact h
  | junk => exact h
theorem AR.of1 {w0 : World} {D : Nat → Prop} {ρ : Nat → Value} {p : AV} {u : Value} (h : AR1 w0 D ρ p u) : AR w0 D ρ p u := by
  cases p <;> first | exact h | exact h.elim
theorem AR.ext {w0 : World} {D D' : Nat → Prop} {ρ ρ' : Nat → Value} (hD : ∀ k, D k → D' k ∧ ρ' k = ρ k) {p : AV} {u : Value} (h : AR w0 D ρ p u) : AR w0 D' ρ' p u := by
  cases p with
  | tup vs => obtain ⟨us, h1, h2⟩ := h; exact ⟨us, h1, h2.mono fun _ _ _ => AR1.ext hD⟩
  | one p => exact AR1.ext (p := .one p) hD h
  | agg p => exact AR1.ext (p := .agg p) hD h
  | junk => trivial
theorem BR.ext {w0 : World} {D D' : Nat → Prop} {ρ ρ' : Nat → Value} (hD : ∀ k, D k → D' k ∧ ρ' k = ρ k) {x : Nat × Blk} (hx : D x.1) {A : Asn} (h : BR w0 D ρ x A) : BR w0 D' ρ' x A := by
  obtain ⟨k, b⟩ := x
  cases b with
  | row T cs => obtain ⟨b, us, h1, h2, h3⟩ := h; exact ⟨b, us, by rw [(hD k hx).2]; exact h1, h2.mono fun _ _ _ => R.ext hD, h3⟩
  | dead => exact h
  | own X => show A = X.A (ρ' k); rw [(hD k hx).2]; exact h
  | byt s => obtain ⟨b, C, h1, h2, h3⟩ := h; exact ⟨b, C, by rw [(hD k hx).2]; exact h1, h2, h3⟩
  | arr E sz es => obtain ⟨h1, h2⟩ := h; exact ⟨h1, by rw [(hD k hx).2]; exact h2⟩
theorem lk_mem : ∀ {H : Hp} {k : Nat} {b : Blk}, lk H k = some b → (k, b) ∈ H
  | [], _, _, h => by cases h
  | (d, v) :: t, k, b, h => by
    simp only [lk] at h
    split at h
    · rename_i e; subst e; simp at h; subst h; exact List.mem_cons_self ..
    · exact List.mem_cons_of_mem _ (lk_mem h)
theorem dom_mem {H : Hp} {k : Nat} : dom H k ↔ k ∈ H.map (·.1) := by
  unfold dom
  induction H with
  | nil => simp [lk]
  | cons x t ih =>
    obtain ⟨d, v⟩ := x
    simp only [lk, List.map_cons, List.mem_cons]
    split
    · rename_i e; subst e; simp
    · rename_i e; rw [ih]; constructor
      · exact .inr
      · rintro (h | h)
        · exact (e h.symm).elim
        · exact h
theorem mem_lk : ∀ {H : Hp} {k : Nat} {b : Blk}, (H.map (·.1)).Nodup → (k, b) ∈ H → lk H k = some b
  | (d, v) :: t, k, b, hn, h => by
    simp only [lk]
    simp only [List.map_cons, List.nodup_cons] at hn
    rcases List.mem_cons.1 h with h | h
    · cases h; simp
    · have : d ≠ k := fun e => hn.1 (e ▸ List.mem_map_of_mem (f := (·.1)) h)
      rw [if_neg this]
      exact mem_lk hn.2 h
theorem lk_upd1 : ∀ (H : Hp) (k n : Nat) (b : Blk), lk (upd1 k b H) n = if n = k then some b else lk H n
  | [], k, n, b => by
    simp only [upd1, lk]
    by_cases e : k = n
    · subst e; simp
    · rw [if_neg e, if_neg (fun h => e h.symm)]
  | (d, v) :: t, k, n, b => by
    simp only [upd1]
    by_cases e : d = k
    · subst e
      rw [if_pos rfl]
      simp only [lk]
      by_cases e2 : d = n
      · subst e2; simp
      · rw [if_neg e2, if_neg e2, if_neg (fun h => e2 h.symm)]
    · rw [if_neg e]
      simp only [lk]
      by_cases e2 : d = n
      · subst e2; rw [if_pos rfl, if_neg e, if_pos rfl]
      · rw [if_neg e2, lk_upd1 t k n b, if_neg e2]
theorem keys_upd1 : ∀ (H : Hp) (k : Nat) (b : Blk), (upd1 k b H).map (·.1) = if k ∈ H.map (·.1) then H.map (·.1) else H.map (·.1) ++ [k]
  | [], k, b => rfl
  | (d, v) :: t, k, b => by
    simp only [upd1]
    by_cases e : d = k
    · subst e; simp
    · rw [if_neg e]
      simp only [List.map_cons, keys_upd1 t k b, List.mem_cons]
      have e' : ¬ k = d := fun h => e h.symm
      by_cases hm : k ∈ t.map (·.1)
      · rw [if_pos hm, if_pos (.inr hm)]
      · rw [if_neg hm, if_neg (by rintro (h | h); exact e' h; exact hm h)]; rfl
theorem nd_upd1 {H : Hp} (k : Nat) (b : Blk) (h : (H.map (·.1)).Nodup) : ((upd1 k b H).map (·.1)).Nodup := by
  rw [keys_upd1]
  split
  · exact h
  · rename_i hn
    rw [List.nodup_append]
    exact ⟨h, by simp, fun a ha c hc => by simp at hc; subst hc; exact fun e => hn (e ▸ ha)⟩
theorem dom_upd1 {H : Hp} {k n : Nat} {b : Blk} : dom (upd1 k b H) n ↔ n = k ∨ dom H n := by
  unfold dom
  rw [lk_upd1]
  by_cases e : n = k
  · simp [e]
  · simp [e]
theorem upd1_new : ∀ {H : Hp} {k : Nat} (b : Blk), lk H k = none → upd1 k b H = H ++ [(k, b)]
  | [], _, _, _ => rfl
  | (d, v) :: t, k, b, h => by
    simp only [lk] at h
    simp only [upd1]
    split at h
    · cases h
    · rename_i e; rw [if_neg e, upd1_new b h]; rfl
theorem upd1_split : ∀ {H : Hp} {k : Nat} {b : Blk} (b' : Blk), lk H k = some b → ∃ l r, H = l ++ (k, b) :: r ∧ upd1 k b' H = l ++ (k, b') :: r
  | [], _, _, _, h => by cases h
  | (d, v) :: t, k, b, b', h => by
    simp only [lk] at h
    simp only [upd1]
    split at h
    · rename_i e; subst e; simp at h; subst h; exact ⟨[], t, rfl, by simp⟩
    · rename_i e
      obtain ⟨l, r, h1, h2⟩ := upd1_split b' h
      exact ⟨(d, v) :: l, r, by rw [h1]; rfl, by rw [if_neg e, h2]; rfl⟩
theorem F2.split {α β : Type} {r : α → β → Prop} {x : α} {q : List α} : ∀ {l : List α} {m : List β}, F2 r (l ++ x :: q) m → ∃ m1 y m2, m = m1 ++ y :: m2 ∧ F2 r l m1 ∧ r x y ∧ F2 r q m2
  | [], _, .cons h k => ⟨[], _, _, rfl, .nil, h, k⟩
  | _ :: l, _, .cons h k => by
    obtain ⟨m1, y, m2, h1, h2, h3, h4⟩ := F2.split (l := l) k
    exact ⟨_ :: m1, y, m2, by rw [h1]; rfl, .cons h h2, h3, h4⟩
end Go.Vc
end
section
namespace Go.Vc
open Go Go.RowKit
set_option linter.unusedVariables false
set_option linter.unusedSimpArgs false
set_option linter.unnecessarySimpa false
set_option linter.unusedSectionVars false
inductive TK where
  | int (k : IntKind)
  | bool
  | str
  | slice (e : TypeId)
  | struct (fs : List (Nat × Nat))
structure TyI where
  k : TK
  size : Nat
  bytes : Nat
  zero : List PV
def TK.row : TK → Bool
  | .struct _ => true
  | _ => false
def pvv : PV → Value
  | .v x => x
  | .nil => .slice none 0 0
  | _ => undef
def pvz : PV → Bool
  | .v x => x.oneCell'
  | .nil => true
  | _ => false
def kindOk (P : Program) (T : TypeId) : TK → Prop
  | .int k => P.underlying T = some (.int k)
  | .bool => P.underlying T = some .bool
  | .str => P.underlying T = some .string
  | .slice e => P.underlying T = some (.slice e)
  | .struct fs => P.underlying T = some (.struct (P.fieldsOf T)) ∧ (P.fieldsOf T).toList.map (fun f => (f.offset, ((P.info? f.type).map (·.size)).getD 0)) = fs ∧ (P.fieldsOf T).toList.all (fun f => (P.info? f.type).isSome) = true
def tyOk (P : Program) (T : TypeId) (i : TyI) : Prop :=
  (∃ z : Value, (P.info? T).map (fun x => (x.zero, x.size, x.bytes)) = some (some z, i.size, i.bytes) ∧ z.cells.toList = i.zero.map pvv ∧ i.zero.length = i.size ∧ i.zero.all pvz = true) ∧ 0 < i.size ∧ i.size ≤ 1000 ∧ kindOk P T i.k ∧ (i.k.row = false → i.size = 1)
class TyEnv (P : Program) where
  ti : TypeId → Option TyI
  ok : ∀ T i, ti T = some i → tyOk P T i
  mix : P.follows .mixedOrders = true
def evo (rd : Nat → AV) : Operand → AV
  | .tmp n => rd n
  | .const (.int k n) => .one (.v (.int k n))
  | .const (.bool b) => .one (.v (.bool b))
  | .const (.string s) => .one (.v (.string s))
  | .const (.slice none 0 0) => .one .nil
  | _ => .junk
def tmpsOf (o : Oper) : List Nat := o.op.operands.toList.filterMap fun | .tmp t => some t | _ => none
def putT (t : Tm) (d : Option Nat) (v : AV) : Tm := match d with
  | some d => (d, v) :: t
  | none => t
section
variable {P : Program} {w0 w : World} {ρ : Nat → Value} {n : Nat} {t : Tm} {H : Hp} {a : Act}
theorem Rel.ev (h : Rel w0 w ρ n t H a) (x : Operand) : AR w0 (dom H) ρ (evo (gt t) x) (a.eval x) := by
  cases x with
  | tmp k => exact h.tm k
  | const v =>
    cases v with
    | bool b => exact ⟨rfl, rfl⟩
    | int k m => exact ⟨rfl, rfl⟩
    | string s => exact ⟨rfl, rfl⟩
    | slice A l c => cases A <;> cases l <;> cases c <;> first | trivial | rfl
    | _ => trivial
  | global g => trivial
  | func f => trivial
theorem Rel.put (h : Rel w0 w ρ n t H a) {d : Option Nat} {v : AV} {u : Value} (hv : AR w0 (dom H) ρ v u) (hd : ∀ k, d = some k → k < n) : Rel w0 w ρ n (putT t d v) H (a.put d u) := by
  cases d with
  | none => exact h
  | some d =>
    refine ⟨by simp [Act.put, h.sz], by simp [Act.put, h.df], fun k => ?_, h.hp, h.nd⟩
    have hd := hd d rfl
    simp only [putT, gt, Act.put]
    by_cases e : d = k
    · subst e
      rw [if_pos rfl]
      simp only [Array.getD_eq_getD_getElem?, Array.getElem?_setIfInBounds, if_pos, h.sz, hd]
      exact hv
    · rw [if_neg e]
      simp only [Array.getD_eq_getD_getElem?, Array.getElem?_setIfInBounds, if_neg e]
      have := h.tm k
      simpa only [Array.getD_eq_getD_getElem?] using this
theorem Rel.world (h : Rel w0 w ρ n t H a) {w' : World} (hx : Ex w w') : Rel w0 w' ρ n t H a :=
  ⟨h.sz, h.df, h.tm, let ⟨As, h1, h2⟩ := h.hp; ⟨As, h1, h2.grow hx⟩, h.nd⟩
end
def Tri (P : Program) (o : Oper) (rd : Nat → AV) (rs : Hp) (v : AV) (δ : Hp) : Prop :=
  ∀ (w0 w : World) (ρ : Nat → Value) (n : Nat) (t : Tm) (H : Hp) (a : Act) (Q : Exit → Act → World → Prop), Rel w0 w ρ n t H a →
    (∀ k ∈ tmpsOf o, gt t k = rd k) → (∀ k b, (k, b) ∈ rs → lk H k = some b) → (∀ k b, (k, b) ∈ δ → (∃ b', (k, b') ∈ rs) ∨ lk H k = none) → (∀ d, o.dst = some d → d < n) →
    o.wp P a w (fun a' w' => ∃ ρ', Rel w0 w' ρ' n (putT t o.dst v) (updH H δ) a') Q
theorem evo_of {o : Oper} {x : Operand} (hx : x ∈ o.op.operands.toList) {r s : Nat → AV} (h : ∀ k ∈ tmpsOf o, r k = s k) : evo r x = evo s x := by
  cases x with
  | tmp k => exact h k (List.mem_filterMap.2 ⟨_, hx, rfl⟩)
  | const v =>
    cases v with
    | slice A l c => cases A <;> cases l <;> cases c <;> rfl
    | _ => rfl
  | global g => rfl
  | func f => rfl
theorem tri_pure {P : Program} {o : Oper} {rd : Nat → AV} {v : AV}
    (h : ∀ (w0 w : World) (D : Nat → Prop) (ρ : Nat → Value) (a : Act), (∀ x ∈ o.op.operands.toList, AR w0 D ρ (evo rd x) (a.eval x)) → Ex w0 w → ∃ u, (execOp a.eval o).run P w = .ok (.value u) w ∧ AR w0 D ρ v u) : Tri P o rd [] v [] := by
  intro w0 w ρ n t H a Q hr ht _ _ hd
  obtain ⟨As, h1, h2⟩ := hr.hp
  obtain ⟨u, hu, hv⟩ := h w0 w (dom H) ρ a (fun x hx => by rw [← evo_of hx ht]; exact hr.ev x) h2.ex
  unfold Oper.wp
  rw [hu]
  exact ⟨ρ, hr.put hv hd⟩
def wr (n : Int) : Int := IntKind.i64.wrap n
def bits (f : BitVec 64 → BitVec 64 → BitVec 64) (a b : Int) : Int := IntKind.i64.wrap (f (BitVec.ofInt 64 a) (BitVec.ofInt 64 b)).toNat
def andI : Int → Int → Int := bits (· &&& ·)
def orI : Int → Int → Int := bits (· ||| ·)
def xorI : Int → Int → Int := bits (· ^^^ ·)
def andNotI : Int → Int → Int := bits (fun a b => a &&& ~~~b)
def intB (op : BinOp) (a b : Int) : Option Value := match op with
  | .add => some (.int .i64 (wr (a + b)))
  | .sub => some (.int .i64 (wr (a - b)))
  | .mul => some (.int .i64 (wr (a * b)))
  | .and => some (.int .i64 (andI a b))
  | .or => some (.int .i64 (orI a b))
  | .xor => some (.int .i64 (xorI a b))
  | .andNot => some (.int .i64 (andNotI a b))
  | .eql => some (.bool (decide (a = b)))
  | .neq => some (.bool (!decide (a = b)))
  | .lss => some (.bool (decide (a < b)))
  | .leq => some (.bool (decide (a ≤ b)))
  | .gtr => some (.bool (decide (b < a)))
  | .geq => some (.bool (decide (b ≤ a)))
  | _ => none
def intU (op : BinOp) (a b : Int) : Option Value := match op with
  | .and => some (.int .u32 (Go.bits .and .u32 a b))
  | .xor => some (.int .u32 (Go.bits .xor .u32 a b))
  | .eql => some (.bool (decide (a = b)))
  | _ => none
def intA (q : IntKind) (op : BinOp) (a b : Int) : Option Value := match q with
  | .i64 => intB op a b
  | .u32 => intU op a b
  | _ => none
def divB (op : BinOp) (a b : Int) : Option Value := match op with
  | .quo => some (.int .i64 (wr (a.tdiv b)))
  | .rem => some (.int .i64 (a.tmod b))
  | _ => none
def strB (op : BinOp) (a b : ByteArray) : Option Value := match op with
  | .eql => some (.bool (decide (a = b)))
  | .neq => some (.bool (!decide (a = b)))
  | _ => none
def booB (op : BinOp) (a b : Bool) : Option Value := match op with
  | .eql => some (.bool (a == b))
  | .neq => some (.bool (a != b))
  | _ => none
theorem str_beq (a b : ByteArray) : (a.toList == b.toList) = decide (a = b) := by
  rw [← beq_toListBytes]
  by_cases h : a = b
  · subst h; rw [beq_toListBytes]; simp
  · rw [decide_eq_false h]
    cases hb : (a == b) with
    | false => rfl
    | true => exact (h (by
        obtain ⟨⟨x⟩⟩ := a; obtain ⟨⟨y⟩⟩ := b
        have : ((⟨x⟩ : Array UInt8) == ⟨y⟩) = true := hb
        simp at this; rw [this])).elim
theorem run_intB (P : Program) (w : World) {op : BinOp} {a b : Int} {v : Value} (h : intB op a b = some v) (T T' : TypeId) (x y : Operand) (ρ : Operand → Value) (hx : ρ x = .int .i64 a) (hy : ρ y = .int .i64 b) (d : Option Tmp) (ty : TypeId) (pos : String) (af : Array Edge) (g : Option (Nat × Bool)) :
    (execOp ρ ⟨d, .binOp op T x y T', ty, pos, af, g⟩).run P w = .ok (.value v) w := by
  cases op <;> simp only [intB, Option.some.injEq, reduceCtorEq] at h <;> subst h <;> simp [execOp, hx, hy, go_sem, wr, andI, orI, xorI, andNotI, bits, Op.intCmp, Op.intBits, Op.intArith, binOp, eqGuard, -BitVec.toNat_and, -BitVec.toNat_or, -BitVec.toNat_xor, -BitVec.toNat_not, -BitVec.toNat_ofInt]
  all_goals first | rfl | skip
theorem run_intU (P : Program) (w : World) {op : BinOp} {a b : Int} {v : Value} (h : intU op a b = some v) (T T' : TypeId) (x y : Operand) (ρ : Operand → Value) (hx : ρ x = .int .u32 a) (hy : ρ y = .int .u32 b) (d : Option Tmp) (ty : TypeId) (pos : String) (af : Array Edge) (g : Option (Nat × Bool)) :
    (execOp ρ ⟨d, .binOp op T x y T', ty, pos, af, g⟩).run P w = .ok (.value v) w := by
  cases op <;> simp only [intU, Option.some.injEq, reduceCtorEq] at h <;> subst h <;> simp [execOp, hx, hy, go_sem, Go.bits, Op.intCmp, Op.intBits, Op.intArith, binOp, eqGuard, -BitVec.toNat_and, -BitVec.toNat_or, -BitVec.toNat_xor, -BitVec.toNat_not, -BitVec.toNat_ofInt]
  all_goals first | rfl | skip
end Go.Vc
end
section
namespace Go.Vc
open Go Go.RowKit
set_option linter.unusedVariables false
set_option linter.unusedSimpArgs false
set_option linter.unnecessarySimpa false
set_option linter.unusedSectionVars false
theorem take_mid (A : Asn) (t : List Asn) : ∀ s : List Asn, Take (s ++ A :: t) A (s ++ t)
  | [] => .head
  | B :: s => .tail (take_mid A t s)
theorem arr_perm : ∀ {m l : List Asn}, l.Perm m → Arr l m
  | [], _, _ => .nil
  | A :: m, l, h => by
    obtain ⟨s, t, rfl⟩ := List.append_of_mem (h.symm.subset (List.mem_cons_self ..))
    exact .cons (take_mid A t s) (arr_perm ((List.perm_middle.symm.trans h).cons_inv))
def upρ (ρ : Nat → Value) (k : Nat) (u : Value) : Nat → Value := fun j => if j = k then u else ρ j
theorem upρ_self (ρ : Nat → Value) (k : Nat) (u : Value) : upρ ρ k u k = u := if_pos rfl
theorem upρ_ne (ρ : Nat → Value) {k j : Nat} (u : Value) (h : j ≠ k) : upρ ρ k u j = ρ j := if_neg h
section
variable {P : Program} {w0 w w' : World} {ρ : Nat → Value} {n : Nat} {t : Tm} {H : Hp} {a : Act} {k : Nat} {b0 b1 : Blk}
theorem St.perm {l m : List Asn} (h : St w0 w l) (p : l.Perm m) : St w0 w m := h.arr (arr_perm p)
theorem lk_dom (h : lk H k = some b0) : dom H k := by unfold dom; rw [h]; rfl
theorem lk_nd (h : lk H k = none) : ¬ dom H k := by unfold dom; rw [h]; simp
theorem Rel.at (h : Rel w0 w ρ n t H a) (hk : lk H k = some b0) : ∃ A Js, BR w0 (dom H) ρ (k, b0) A ∧ St w0 w (A :: Js) := by
  obtain ⟨As, h1, h2⟩ := h.hp
  obtain ⟨l, r, e, _⟩ := upd1_split b0 hk
  rw [e] at h1
  obtain ⟨m1, A, m2, rfl, _, h3, _⟩ := h1.split
  rw [← e] at h3
  exact ⟨A, m1 ++ m2, h3, h2.take (take_mid A m2 m1)⟩
theorem St.dead {Js : List Asn} (h : St w0 w Js) : St w0 w (deadA :: Js) := h.add (Ex.refl w) (A := deadA) (F := fun _ => False) (fun _ h => h) fun _ h => h.elim
theorem Rel.parts (h : Rel w0 w ρ n t H a) : ∃ As, St w0 w As ∧ ∀ (w' : World) (k : Nat) (b1 : Blk) (u : Value) (A : Asn), lk H k = none → BR w0 (dom (upd1 k b1 H)) (upρ ρ k u) (k, b1) A → St w0 w' (A :: As) → Rel w0 w' (upρ ρ k u) n t (upd1 k b1 H) a := by
  obtain ⟨As, h1, h2⟩ := h.hp
  refine ⟨As, h2, fun w' k b1 u A hk g1 g2 => ?_⟩
  have hD : ∀ j, dom H j → dom (upd1 k b1 H) j ∧ upρ ρ k u j = ρ j := fun j hj => ⟨dom_upd1.2 (.inr hj), upρ_ne _ _ (fun e => lk_nd hk (e ▸ hj))⟩
  refine ⟨h.sz, h.df, fun j => (h.tm j).ext hD, ⟨As ++ [A], ?_, St.perm g2 (List.perm_append_singleton A As).symm⟩, nd_upd1 _ _ h.nd⟩
  have e := upd1_new b1 hk
  have := F2.app (h1.mono fun x _ hx q => BR.ext hD (dom_mem.2 (List.mem_map_of_mem hx)) q) (.cons g1 .nil)
  rwa [← e] at this
theorem Rel.focus (h : Rel w0 w ρ n t H a) (hk : lk H k = some b0) : ∃ A Js, BR w0 (dom H) ρ (k, b0) A ∧ St w0 w (A :: Js) ∧
    (∀ (w' : World) (b1 : Blk) (A' : Asn), BR w0 (dom H) ρ (k, b1) A' → St w0 w' (A' :: Js) → Rel w0 w' ρ n t (upd1 k b1 H) a) ∧
    (∀ (w' : World) (j : Nat) (b1 : Blk) (u : Value) (A' : Asn), lk H j = none → (∀ D, BR w0 D (upρ ρ j u) (j, b1) A') → St w0 w' (A' :: Js) → Rel w0 w' (upρ ρ j u) n t (upd1 j b1 (upd1 k .dead H)) a) := by
  obtain ⟨As, h1, h2⟩ := h.hp
  obtain ⟨l, r, e, _⟩ := upd1_split .dead hk
  have h1' := h1
  rw [e] at h1'
  obtain ⟨m1, A, m2, rfl, h3, h4, h5⟩ := h1'.split
  rw [← e] at h3 h4 h5
  refine ⟨A, m1 ++ m2, h4, h2.take (take_mid A m2 m1), fun w' b1 A' g1 g2 => ?_, fun w' j b1 u A' hj g1 g2 => ?_⟩
  · obtain ⟨l', r', e1, e'⟩ := upd1_split b1 hk
    have hD : ∀ j, dom H j → dom (upd1 k b1 H) j ∧ ρ j = ρ j := fun j hj => ⟨dom_upd1.2 (.inr hj), rfl⟩
    have hkey : (upd1 k b1 H).map (·.1) = H.map (·.1) := by rw [keys_upd1, if_pos (dom_mem.1 (lk_dom hk))]
    have h1' := h1
    rw [e1] at h1'
    obtain ⟨p1, B, p2, q0, q3, q4, q5⟩ := h1'.split
    rw [← e1] at q3 q4 q5
    have hlen : l = l' := by
      have n1 := h.nd
      rw [e] at e1
      have : ∀ (l l' r r' : Hp), ((l ++ (k, b0) :: r).map (·.1)).Nodup → l ++ (k, b0) :: r = l' ++ (k, b0) :: r' → l = l' := by
        intro l
        induction l with
        | nil =>
          intro l' r r' hn he
          cases l' with
          | nil => rfl
          | cons x l' =>
            simp only [List.nil_append, List.cons_append, List.cons.injEq] at he
            obtain ⟨rfl, rfl⟩ := he
            simp at hn
        | cons x l ih =>
          intro l' r r' hn he
          cases l' with
          | nil =>
            simp only [List.nil_append, List.cons_append, List.cons.injEq] at he
            obtain ⟨rfl, rfl⟩ := he
            simp at hn
          | cons y l' =>
            simp only [List.cons_append, List.cons.injEq] at he
            obtain ⟨rfl, he⟩ := he
            simp only [List.cons_append, List.map_cons, List.nodup_cons] at hn
            rw [ih l' r r' hn.2 he]
      exact this l l' r r' (by rw [← e]; exact n1) e1
    subst hlen
    have hl1 : m1.length = p1.length := by rw [← h3.len, ← q3.len]
    have hm := List.append_inj q0 hl1
    obtain ⟨rfl, hm2⟩ := hm
    simp only [List.cons.injEq] at hm2
    obtain ⟨rfl, rfl⟩ := hm2
    refine ⟨h.sz, h.df, fun j => (h.tm j).ext hD, ⟨m1 ++ A' :: m2, ?_, St.perm g2 List.perm_middle.symm⟩, hkey ▸ h.nd⟩
    rw [e']
    refine F2.app (q3.mono fun x _ hx q => ?_) (.cons ?_ (q5.mono fun x _ hx q => ?_))
    · rw [← e']; exact BR.ext hD (dom_mem.2 (by rw [e1]; exact List.mem_map_of_mem (List.mem_append_left _ hx))) q
    · rw [← e']; exact BR.ext hD (lk_dom hk) g1
    · rw [← e']; exact BR.ext hD (dom_mem.2 (by rw [e1]; exact List.mem_map_of_mem (List.mem_append_right _ (List.mem_cons_of_mem _ hx)))) q
  · obtain ⟨l', r', e1, e'⟩ := upd1_split .dead hk
    have hkj : j ≠ k := fun e => by subst e; rw [hj] at hk; cases hk
    have hD : ∀ i, dom H i → dom (upd1 j b1 (upd1 k .dead H)) i ∧ upρ ρ j u i = ρ i := fun i hi => ⟨dom_upd1.2 (.inr (dom_upd1.2 (.inr hi))), upρ_ne _ _ (fun e => lk_nd hj (e ▸ hi))⟩
    have hj' : lk (upd1 k .dead H) j = none := by rw [lk_upd1, if_neg hkj]; exact hj
    have hlr : upd1 k .dead H = l ++ (k, .dead) :: r := by
      have h9 := e
      have : ∀ (l : Hp) (H : Hp), (H.map (·.1)).Nodup → H = l ++ (k, b0) :: r → upd1 k .dead H = l ++ (k, .dead) :: r := by
        intro l
        induction l with
        | nil => rintro _ _ rfl; simp [upd1]
        | cons x l ih =>
          rintro _ hn rfl
          obtain ⟨d, v⟩ := x
          simp only [List.cons_append, upd1]
          have : d ≠ k := by
            rintro rfl
            simp at hn
          rw [if_neg this, ih _ (by simp only [List.cons_append, List.map_cons, List.nodup_cons] at hn; exact hn.2) rfl]
      exact this l H h.nd h9
    refine ⟨h.sz, h.df, fun i => (h.tm i).ext hD, ⟨(m1 ++ deadA :: m2) ++ [A'], ?_, ?_⟩, nd_upd1 _ _ (nd_upd1 _ _ h.nd)⟩
    · have hh : F2 (BR w0 (dom (upd1 j b1 (upd1 k .dead H))) (upρ ρ j u)) (upd1 k .dead H) (m1 ++ deadA :: m2) := by
        rw [hlr]
        refine F2.app (h3.mono fun x _ hx q => ?_) (.cons rfl (h5.mono fun x _ hx q => ?_))
        · rw [← hlr]; exact BR.ext hD (dom_mem.2 (by rw [e]; exact List.mem_map_of_mem (List.mem_append_left _ hx))) q
        · rw [← hlr]; exact BR.ext hD (dom_mem.2 (by rw [e]; exact List.mem_map_of_mem (List.mem_append_right _ (List.mem_cons_of_mem _ hx)))) q
      have := F2.app hh (.cons (g1 _) .nil)
      rwa [← upd1_new b1 hj'] at this
    · refine St.perm (St.dead g2) ?_
      refine (List.Perm.swap ..).trans ?_
      refine List.Perm.trans ?_ (List.perm_append_singleton A' (m1 ++ deadA :: m2)).symm
      exact (List.perm_middle.symm).cons A'
end
section
variable {P : Program} [TyEnv P]
theorem ty_zero {T : TypeId} {i : TyI} (h : TyEnv.ti P T = some i) : zeroCells' P T = some (i.zero.map pvv) := by
  obtain ⟨⟨z, h1, h2, _⟩, _⟩ := TyEnv.ok T i h
  obtain ⟨x, hx, he⟩ := Option.map_eq_some_iff.1 h1
  simp only [Prod.mk.injEq] at he
  unfold zeroCells'
  rw [hx, ← h2]
  simp [he.1]
theorem ty_size {T : TypeId} {i : TyI} (h : TyEnv.ti P T = some i) : (P.info? T).map (·.size) = some i.size := by
  obtain ⟨⟨z, h1, h2, _⟩, _⟩ := TyEnv.ok T i h
  obtain ⟨x, hx, he⟩ := Option.map_eq_some_iff.1 h1
  simp only [Prod.mk.injEq] at he
  rw [hx, Option.map_some, he.2.1]
theorem ty_info {T : TypeId} {i : TyI} (h : TyEnv.ti P T = some i) : ∃ z : Value, infoT P T z i.size i.bytes ∧ z.cells.toList = i.zero.map pvv := by
  obtain ⟨⟨z, h1, h2, h3, h4⟩, _⟩ := TyEnv.ok T i h
  refine ⟨z, ⟨h1, ?_⟩, h2⟩
  have := congrArg List.length h2
  simpa [h3] using this
theorem ty_kind {T : TypeId} {i : TyI} (h : TyEnv.ti P T = some i) : kindOk P T i.k := (TyEnv.ok T i h).2.2.2.1
theorem ty_pos {T : TypeId} {i : TyI} (h : TyEnv.ti P T = some i) : 0 < i.size := (TyEnv.ok T i h).2.1
theorem ty_und {T : TypeId} {i : TyI} (h : TyEnv.ti P T = some i) : ∃ d, P.underlying T = some d ∧ d.isRow = i.k.row := by
  have hk := ty_kind h
  cases hi : i.k <;> rw [hi] at hk
  · exact ⟨_, hk, rfl⟩
  · exact ⟨_, hk, rfl⟩
  · exact ⟨_, hk, rfl⟩
  · exact ⟨_, hk, rfl⟩
  · exact ⟨_, hk.1, rfl⟩
theorem ty_zeros {T : TypeId} {i : TyI} (h : TyEnv.ti P T = some i) {w0 : World} {D : Nat → Prop} {ρ : Nat → Value} : F2 (R w0 D ρ) i.zero (i.zero.map pvv) := by
  obtain ⟨⟨z, h1, h2, h3, h4⟩, _⟩ := TyEnv.ok T i h
  clear h h1 h2 h3
  generalize i.zero = l at h4
  induction l with
  | nil => exact .nil
  | cons p l ih =>
    simp only [List.all_cons, Bool.and_eq_true] at h4
    refine .cons ?_ (ih h4.2)
    cases p <;> first | exact ⟨rfl, h4.1⟩ | rfl | (simp [pvz] at h4)
end
end Go.Vc
end
section
namespace Go.Vc
open Go Go.RowKit
set_option linter.unusedVariables false
set_option linter.unusedSimpArgs false
set_option linter.unnecessarySimpa false
set_option linter.unusedSectionVars false
def consO {α : Type} (x : α) (o : Option (List α)) : Option (List α) := match o with
  | some l => some (x :: l)
  | none => none
theorem consO_eq {α : Type} (x : α) (o : Option (List α)) : consO x o = o.map (x :: ·) := by cases o <;> rfl
def cellsO : AV → Option (List PV)
  | .one p => some [p]
  | .agg ps => some ps
  | _ => none
def asP : AV → Option PV
  | .one p => some p
  | _ => none
def asB : AV → Option Bool
  | .one (.v (.bool b)) => some b
  | _ => none
def asI : AV → Option Int
  | .one (.v (.int .i64 n)) => some n
  | _ => none
def asS : AV → Option ByteArray
  | .one (.v (.string s)) => some s
  | _ => none
def takeO {α : Type} : Nat → List α → Option (List α)
  | 0, _ => some []
  | _ + 1, [] => none
  | n + 1, x :: l => consO x (takeO n l)
def mkv (i : TyI) (cs : List PV) : Option AV := match i.k with
  | .struct _ => (takeO i.size cs).map .agg
  | _ => cs.head?.map .one
def plainV : List PV → Option (List Value)
  | [] => some []
  | .v x :: l => consO x (plainV l)
  | _ :: _ => none
def spl {α : Type} : List α → Nat → List α → Option (List α)
  | cs, _, [] => some cs
  | [], _, _ :: _ => none
  | _ :: cs, 0, v :: vs => (spl cs 0 vs).map (v :: ·)
  | c :: cs, n + 1, v :: vs => (spl cs n (v :: vs)).map (c :: ·)
theorem takeO_some {α : Type} : ∀ {n : Nat} {l m : List α}, takeO n l = some m → m = l.take n ∧ m.length = n
  | 0, l, m, h => by simp [takeO] at h; subst h; simp
  | n + 1, [], m, h => by simp [takeO] at h
  | n + 1, x :: l, m, h => by
    simp only [takeO, consO_eq, Option.map_eq_some_iff] at h
    obtain ⟨m', h1, rfl⟩ := h
    obtain ⟨rfl, h3⟩ := takeO_some h1
    exact ⟨rfl, by simp [h3]⟩
theorem plainV_some : ∀ {l : List PV} {us : List Value}, plainV l = some us → l = us.map .v
  | [], us, h => by simp [plainV] at h; subst h; rfl
  | p :: l, us, h => by
    cases p <;> simp only [plainV, consO_eq, reduceCtorEq, Option.map_eq_some_iff] at h
    obtain ⟨m, h1, rfl⟩ := h
    rw [plainV_some h1]; rfl
theorem F2.map_v {w0 : World} {D : Nat → Prop} {ρ : Nat → Value} : ∀ {us vs : List Value}, F2 (R w0 D ρ) (us.map .v) vs → vs = us ∧ us.all (·.oneCell') = true
  | [], _, .nil => ⟨rfl, rfl⟩
  | u :: us, _, .cons h k => by
    obtain ⟨rfl, h1⟩ := F2.map_v k
    obtain ⟨rfl, h2⟩ := h
    exact ⟨rfl, by simp only [List.all_cons, Bool.and_eq_true]; exact ⟨h2, h1⟩⟩
theorem spl_F2 {α : Type} {r : α → Value → Prop} : ∀ {cs : List α} {us : List Value} (_ : F2 r cs us) (o : Nat) {vs : List α} {xs : List Value} (_ : F2 r vs xs) {cs' : List α}, spl cs o vs = some cs' → F2 r cs' (nicL us o xs) ∧ o + vs.length ≤ cs.length + (if vs = [] then o else 0) := by
  intro cs us h
  induction h with
  | nil =>
    intro o vs xs hv cs' hc
    cases hv with
    | nil => simp only [spl, Option.some.injEq] at hc; subst hc; exact ⟨by cases o <;> exact .nil, by simp⟩
    | cons _ _ => simp [spl] at hc
  | cons h k ih =>
    intro o vs xs hv cs' hc
    cases hv with
    | nil => simp only [spl, Option.some.injEq] at hc; subst hc; exact ⟨by cases o <;> exact .cons h k, by simp⟩
    | cons g1 g2 =>
      cases o with
      | zero =>
        simp only [spl, Option.map_eq_some_iff] at hc
        obtain ⟨m, hm, rfl⟩ := hc
        obtain ⟨q1, q2⟩ := ih 0 g2 hm
        exact ⟨.cons g1 q1, by simp at q2 ⊢; omega⟩
      | succ o =>
        simp only [spl, Option.map_eq_some_iff] at hc
        obtain ⟨m, hm, rfl⟩ := hc
        obtain ⟨q1, q2⟩ := ih o (.cons g1 g2) hm
        exact ⟨.cons h q1, by simp at q2 ⊢; omega⟩
theorem cells_R {w0 : World} {D : Nat → Prop} {ρ : Nat → Value} {x : AV} {u : Value} {cs : List PV} (h : AR w0 D ρ x u) (hc : cellsO x = some cs) : F2 (R w0 D ρ) cs u.cells.toList := by
  cases x with
  | one p =>
    simp only [cellsO, Option.some.injEq] at hc
    subst hc
    have h : R w0 D ρ p u := h
    have := h.one
    have e : u.cells = #[u] := by cases u <;> first | rfl | (simp [Value.oneCell'] at this)
    rw [e]
    exact .cons h .nil
  | agg ps =>
    simp only [cellsO, Option.some.injEq] at hc
    subst hc
    obtain ⟨us, rfl, h⟩ := h
    exact h
  | tup vs => simp [cellsO] at hc
  | junk => simp [cellsO] at hc
theorem F2.all1 {w0 : World} {D : Nat → Prop} {ρ : Nat → Value} {cs : List PV} {us : List Value} (h : F2 (R w0 D ρ) cs us) : us.all (·.oneCell') = true := by
  induction h with
  | nil => rfl
  | cons h _ ih => simp only [List.all_cons, Bool.and_eq_true]; exact ⟨h.one, ih⟩
theorem mkv_R {w0 : World} {D : Nat → Prop} {ρ : Nat → Value} {i : TyI} {cs : List PV} {v : AV} (h : mkv i cs = some v) {us : List Value} (hr : F2 (R w0 D ρ) cs us) :
    if i.k.row then i.size ≤ us.length ∧ AR w0 D ρ v (.agg (us.take i.size).toArray) else ∃ u, us[0]? = some u ∧ AR w0 D ρ v u := by
  unfold mkv at h
  split at h
  · rename_i fs hk
    rw [hk]
    obtain ⟨m, hm, rfl⟩ := Option.map_eq_some_iff.1 h
    obtain ⟨rfl, hl⟩ := takeO_some hm
    simp only [TK.row, if_true]
    refine ⟨?_, _, rfl, hr.take _⟩
    rw [← hr.len]
    rw [List.length_take] at hl
    omega
  · rename_i hk
    have : i.k.row = false := by cases hi : i.k <;> simp_all [TK.row]
    rw [this]
    simp only [Bool.false_eq_true, if_false]
    obtain ⟨p, hp, rfl⟩ := Option.map_eq_some_iff.1 h
    cases hr with
    | nil => simp at hp
    | cons g _ => simp at hp; subst hp; exact ⟨_, rfl, g⟩
theorem ext_new {ρ : Nat → Value} {H : Hp} {k : Nat} {b : Blk} {u : Value} (hk : lk H k = none) : ∀ j, dom H j → dom (upd1 k b H) j ∧ upρ ρ k u j = ρ j :=
  fun j hj => ⟨dom_upd1.2 (.inr hj), upρ_ne _ _ (fun e => lk_nd hk (e ▸ hj))⟩
section
variable {P : Program} [TyEnv P] {o : Oper} {rd : Nat → AV} {T : TypeId} {i : TyI} {k : Nat}
theorem tri_alloc (ho : o.op = .alloc T) (hi : TyEnv.ti P T = some i) : Tri P o rd [] (.one (.rp k 0)) [(k, .row T i.zero)] := by
  intro w0 w ρ n t H a Q hr ht hrs hfr hd
  have hk : lk H k = none := (hfr k _ (List.mem_cons_self ..)).resolve_left (by rintro ⟨_, h⟩; cases h)
  obtain ⟨As, h2, h3⟩ := hr.parts
  refine wp_alloc_st T ho (ty_zero hi) h2 fun w' b hb hS => ?_
  have g := h3 w' k (.row T i.zero) (.pointer (some ⟨b, 0, none⟩)) _ hk ⟨b, _, upρ_self .., ty_zeros hi, rfl⟩ hS
  exact ⟨_, g.put ⟨dom_upd1.2 (.inl rfl), b, upρ_self .., rfl⟩ hd⟩
theorem tri_box {x : Operand} {cs : List PV} (ho : o.op = .box T x) (hc : cellsO (evo rd x) = some cs) : Tri P o rd [] (.one (.rp k 0)) [(k, .row T cs)] := by
  intro w0 w ρ n t H a Q hr ht hrs hfr hd
  have hk : lk H k = none := (hfr k _ (List.mem_cons_self ..)).resolve_left (by rintro ⟨_, h⟩; cases h)
  obtain ⟨As, h2, h3⟩ := hr.parts
  refine wp_box_st T x ho rfl h2 fun w' b hb hS => ?_
  have hx := hr.ev x
  rw [evo_of (o := o) (by rw [ho]; simp [Op.operands]) ht] at hx
  have hcs := cells_R hx hc
  have g := h3 w' k (.row T cs) (.pointer (some ⟨b, 0, none⟩)) _ hk ⟨b, _, upρ_self .., hcs.mono fun _ _ _ q => R.ext (ext_new hk) q, rfl⟩ hS
  exact ⟨_, g.put ⟨dom_upd1.2 (.inl rfl), b, upρ_self .., rfl⟩ hd⟩
theorem tri_loadR {x : Operand} {T' : TypeId} {cs : List PV} {f : Nat} {v : AV} (ho : o.op = .load T x) (hi : TyEnv.ti P T = some i) (hx : evo rd x = .one (.rp k f)) (hv : mkv i (cs.drop f) = some v) : Tri P o rd [(k, .row T' cs)] v [] := by
  intro w0 w ρ n t H a Q hr ht hrs hfr hd
  have hk := hrs k _ (List.mem_cons_self ..)
  obtain ⟨A, Js, ⟨b, us, e1, e2, rfl⟩, h2, _⟩ := hr.focus hk
  have hx' := hr.ev x
  rw [evo_of (o := o) (by rw [ho]; simp [Op.operands]) ht, hx] at hx'
  obtain ⟨_, b', e1', hx'⟩ := hx'
  rw [e1] at e1'
  simp only [Value.pointer.injEq, Option.some.injEq, Addr.mk.injEq, and_true] at e1'
  subst e1'
  have hm := mkv_R hv (e2.drop f)
  obtain ⟨d, hu, hrow⟩ := ty_und hi
  split at hm
  · rename_i hq
    refine wp_loadA_st T x ho hx' h2 .head (n := i.size) ⟨⟨d, hu, by rw [hrow, hq]⟩, ty_size hi⟩ rfl (by rw [List.length_take]; omega) ?_
    exact ⟨ρ, hr.put hm.2 hd⟩
  · rename_i hq
    obtain ⟨u, h1, h3⟩ := hm
    refine wp_loadS_st T x ho hx' h2 .head ⟨d, hu, by rw [hrow]; simpa using hq⟩ (v := u) (by rw [← h1, List.getElem?_drop]; rfl) ?_
    exact ⟨ρ, hr.put h3 hd⟩
theorem tri_storeR {x y : Operand} {T' : TypeId} {cs cs' vs : List PV} {f : Nat} (ho : o.op = .store T x y) (hn : o.dst = none) (hi : TyEnv.ti P T = some i) (hx : evo rd x = .one (.rp k f)) (hy : cellsO (evo rd y) = some vs) (hl : vs.length = i.size)
    (hv : spl cs f vs = some cs') : Tri P o rd [(k, .row T' cs)] .junk [(k, .row T' cs')] := by
  intro w0 w ρ n t H a Q hr ht hrs hfr hd
  have hk := hrs k _ (List.mem_cons_self ..)
  obtain ⟨A, Js, ⟨b, us, e1, e2, rfl⟩, h2, h3, _⟩ := hr.focus hk
  have hx' := hr.ev x
  rw [evo_of (o := o) (by rw [ho]; simp [Op.operands]) ht, hx] at hx'
  obtain ⟨_, b', e1', hx'⟩ := hx'
  rw [e1] at e1'
  simp only [Value.pointer.injEq, Option.some.injEq, Addr.mk.injEq, and_true] at e1'
  subst e1'
  have hy' := hr.ev y
  rw [evo_of (o := o) (by rw [ho]; simp [Op.operands]) ht] at hy'
  have hcs := cells_R hy' hy
  obtain ⟨q1, q2⟩ := spl_F2 e2 f hcs hv
  have hvn : vs ≠ [] := fun e => by subst e; have := ty_pos hi; simp at hl; omega
  rw [if_neg hvn, Nat.add_zero] at q2
  refine wp_store_st T x y ho hx' rfl h2 .head (ty_size hi) rfl (by rw [← hcs.len, hl]) (F2.all1 hcs) (by rw [← e2.len]; omega) (fun w' hz hS => ?_) hn
  have g := h3 w' (.row T' cs') _ ⟨b, _, e1, q1, rfl⟩ hS
  refine ⟨ρ, ?_⟩
  simp only [updH, putT, hn]
  exact g
end
end Go.Vc
end
section
namespace Go
open Go.RowKit
set_option linter.unusedVariables false
theorem madeCells_at (z : Array Value) (m i : Nat) (hi : i < m) (hz : 0 < z.size) : (madeCells z m)[i]? = z[i % z.size]? := by
  unfold madeCells
  rw [Array.getElem?_map, Array.getElem?_range, if_pos hi]
  have := Nat.mod_lt i hz
  simp [getElem!_pos, this]
end Go
end
section
namespace Go
open Go.RowKit
set_option linter.unusedVariables false
theorem arr_skip {A : Asn} {l m : List Asn} (h : Arr l m) : Arr (A :: l) m := by
  induction h with
  | nil => exact .nil
  | cons t _ ih => exact .cons (.tail t) ih
section
variable {P : Program} {ops : Array Oper} {rest : List Oper} {o : Oper} {a : Act} {w w0 : World} {Q : Exit → Act → World → Prop} {Is Js : List Asn} {K : Act → World → Prop}
theorem wp_bsliceN_st (t : TypeId) (n : Nat) (parts : Array (Nat × Operand)) (ho : o.op = .buildSlice t n parts) (e : TypeId) (ht : P.underlying t = some (.slice e)) {z : Value} {size bytes : Nat} (hi : infoT P e z size bytes) (hp : 0 < size) (ys : List Operand)
    (hparts : parts.toList = (ys.zipIdx 0).map fun x => (x.2, x.1)) (hn : ys.length = n) (h0 : 0 < n) (hm : n * size ≤ 16777216) {vs : List Value} (hv : ys.map a.eval = vs) (hvs : vs.all (fun v => v.cells.size == size) = true) {cs : List Value} (hc : (vs.flatMap fun v => v.cells.toList) = cs) (hs : St w0 w Is)
    (h : ∀ w' b, w.heap.size = b → St w0 w' (rowA b cs e :: Is) → K (a.put o.dst (.slice (some ⟨b, 0, none⟩) n n)) w') : o.wp P a w K Q := by
  obtain ⟨h1, h2⟩ := hi
  obtain ⟨i, hi, hzz⟩ := Option.map_eq_some_iff.1 h1
  simp only [Prod.mk.injEq] at hzz
  obtain ⟨hz, rfl, rfl⟩ := hzz
  subst hc hn
  refine wp_buildSlice t e _ parts ho (vs.flatMap fun v => v.cells.toList).toArray i z ht hi hz (by omega) (by have := Nat.mul_pos h0 hp; omega) ?_ (h _ _ rfl ?_)
  · have e1 : (parts.map fun (i, x) => (i, a.eval x)).toList = (vs.zipIdx 0).map fun x => (x.2, x.1) := by
      rw [Array.toList_map, hparts, ← hv, List.zipIdx_map, List.map_map, List.map_map]
      rfl
    rw [e1]
    refine Great.fill_whole hp vs _ (fun v hv => by have := List.all_eq_true.1 hvs v hv; simpa using this) ?_
    rw [← hv]; simp
  · have := hs.alloc (vs.flatMap fun v => v.cells.toList).toArray e
    simpa using this
end
end Go
end
section
namespace Go.Vc
open Go Go.RowKit
set_option linter.unusedVariables false
set_option linter.unusedSimpArgs false
set_option linter.unnecessarySimpa false
set_option linter.unusedSectionVars false
theorem flat_len : ∀ {es : List (List Value)} {sz : Nat}, (∀ e ∈ es, e.length = sz ∧ e.all (·.oneCell') = true) → es.flatten.length = es.length * sz
  | [], _, _ => by simp
  | e :: es, sz, h => by
    rw [List.flatten_cons, List.length_append, (h e (List.mem_cons_self ..)).1, flat_len (fun e he => h e (List.mem_cons_of_mem _ he)), List.length_cons, Nat.succ_mul]
    omega
theorem flat_at : ∀ {es : List (List Value)} {sz : Nat}, (∀ e ∈ es, e.length = sz ∧ e.all (·.oneCell') = true) → ∀ {i : Nat} {e : List Value}, es[i]? = some e → ∀ {j : Nat}, j < sz → es.flatten[i * sz + j]? = e[j]?
  | [], _, _, i, e, he, _, _ => by simp at he
  | x :: es, sz, h, 0, e, he, j, hj => by
    simp at he; subst he
    rw [List.flatten_cons, Nat.zero_mul, Nat.zero_add, List.getElem?_append_left (by rw [(h x (List.mem_cons_self ..)).1]; exact hj)]
  | x :: es, sz, h, i + 1, e, he, j, hj => by
    simp at he
    rw [List.flatten_cons, List.getElem?_append_right (by rw [(h x (List.mem_cons_self ..)).1, Nat.succ_mul]; omega), (h x (List.mem_cons_self ..)).1,
      show (i + 1) * sz + j - sz = i * sz + j from by rw [Nat.succ_mul]; omega]
    exact flat_at (fun e he => h e (List.mem_cons_of_mem _ he)) he hj
theorem flat_set : ∀ {es : List (List Value)} {sz : Nat}, (∀ e ∈ es, e.length = sz ∧ e.all (·.oneCell') = true) → ∀ {i : Nat} {e : List Value}, es[i]? = some e → ∀ {o : Nat} {us : List Value}, o + us.length ≤ sz → (es.set i (nicL e o us)).flatten = nicL es.flatten (i * sz + o) us
  | es, sz, h, i, e, he, o, us, ho => by
    apply List.ext_getElem?
    intro k
    have hi : i < es.length := (List.getElem?_eq_some_iff.1 he).1
    have hel : e.length = sz := (h e (List.mem_of_getElem? he)).1
    have hm := Nat.mul_le_mul_right sz (show i + 1 ≤ es.length from hi)
    rw [Nat.succ_mul] at hm
    rw [nicL_in _ _ _ _ (by rw [flat_len h]; omega)]
    have key : ∀ e' ∈ es.set i (nicL e o us), e'.length = sz := fun e' he' => by
      rcases List.mem_or_eq_of_mem_set he' with h1 | h1
      · exact (h e' h1).1
      · rw [h1, nicL_size, hel]
    have flen : ∀ {l : List (List Value)}, (∀ e' ∈ l, e'.length = sz) → l.flatten.length = l.length * sz := by
      intro l
      induction l with
      | nil => intro _; simp
      | cons x l ih => intro hl; rw [List.flatten_cons, List.length_append, hl x (List.mem_cons_self ..), ih (fun e he => hl e (List.mem_cons_of_mem _ he)), List.length_cons, Nat.succ_mul]; omega
    have fat : ∀ {l : List (List Value)}, (∀ e' ∈ l, e'.length = sz) → ∀ {i : Nat} {e : List Value}, l[i]? = some e → ∀ {j : Nat}, j < sz → l.flatten[i * sz + j]? = e[j]? := by
      intro l
      induction l with
      | nil => intro _ i e he; simp at he
      | cons x l ih =>
        intro hl i e he j hj
        cases i with
        | zero => simp at he; subst he; rw [List.flatten_cons, Nat.zero_mul, Nat.zero_add, List.getElem?_append_left (by rw [hl x (List.mem_cons_self ..)]; exact hj)]
        | succ i =>
          simp at he
          rw [List.flatten_cons, List.getElem?_append_right (by rw [hl x (List.mem_cons_self ..), Nat.succ_mul]; omega), hl x (List.mem_cons_self ..), show (i + 1) * sz + j - sz = i * sz + j from by rw [Nat.succ_mul]; omega]
          exact ih (fun e he => hl e (List.mem_cons_of_mem _ he)) he hj
    by_cases hz : sz = 0
    · subst hz
      have hun : us = [] := List.eq_nil_of_length_eq_zero (by omega)
      subst hun
      have e1 : ∀ c n, nicL c n [] = c := fun c n => by cases c <;> rfl
      simp only [e1]
      rw [if_neg (by simp), show es.set i e = es from by
        apply List.ext_getElem?
        intro m
        rw [List.getElem?_set]
        split
        · rename_i hh; subst hh; exact he.symm
        · rfl]
    by_cases hk : k < es.length * sz
    · have hq : k / sz < es.length := Nat.div_lt_of_lt_mul (by rw [Nat.mul_comm]; exact hk)
      have hr := Nat.mod_lt k (Nat.pos_of_ne_zero hz)
      have hkk : k / sz * sz + k % sz = k := Nat.div_add_mod' k sz
      have a1 := fat key (i := k / sz) (e := if k / sz = i then nicL e o us else es[k / sz]) (by
        rw [List.getElem?_set]
        by_cases hc : i = k / sz
        · subst hc; simp [hq]
        · rw [if_neg hc, if_neg (fun hh => hc hh.symm), List.getElem?_eq_getElem hq]) hr
      have a2 := flat_at h (i := k / sz) (List.getElem?_eq_getElem hq) hr
      rw [hkk] at a1 a2
      rw [a1, a2]
      by_cases hc : k / sz = i
      · subst hc
        rw [if_pos rfl]
        rw [List.getElem?_eq_getElem hq] at he
        obtain rfl := Option.some.inj he
        rw [nicL_in _ _ _ _ (by omega)]
        by_cases hc2 : o ≤ k % sz ∧ k % sz < o + us.length
        · rw [if_pos hc2, if_pos (by omega)]; congr 1; omega
        · rw [if_neg hc2, if_neg (by omega)]
      · rw [if_neg hc, if_neg]
        rintro ⟨b1, b2⟩
        apply hc
        rcases Nat.lt_or_gt_of_ne hc with q | q
        · have := Nat.mul_le_mul_right sz (show k / sz + 1 ≤ i from q); rw [Nat.succ_mul] at this; omega
        · have := Nat.mul_le_mul_right sz (show i + 1 ≤ k / sz from q); rw [Nat.succ_mul] at this; omega
    · rw [List.getElem?_eq_none (by rw [flen key, List.length_set]; omega), if_neg (by omega), List.getElem?_eq_none (by rw [flat_len h]; omega)]
section
variable {P : Program} {w0 w : World} {Js : List Asn}
theorem slot_cells {E : TypeId} {sz n : Nat} {v : Value} {xs : List Value} (h : Slot 0 w E sz v n xs) (hn : 0 < n) : ∃ b off cap, v = .slice (some ⟨b, off, none⟩) n cap ∧ ∀ j, j < n * sz → w.cell? ⟨b, off + j, none⟩ = xs[j]? ∧ w.frozen? ⟨b, off + j, none⟩ = false := by
  obtain ⟨_, ⟨_, h0⟩ | ⟨b, off, cap, cur, rfl, _, hb, _, _, h5, h6⟩⟩ := h
  · omega
  · exact ⟨b, off, cap, rfl, fun j hj => ⟨by rw [cell_row hb]; exact h6 j hj, frozen_row hb _⟩⟩
theorem St.setS {E : TypeId} {sz n b off cap p : Nat} {xs vs : List Value} (h : St w0 w (slotA E sz (.slice (some ⟨b, off, none⟩) n cap) n xs :: Js)) (hp : p + vs.length ≤ n * sz) : St w0 (w.setCells b (off + p) vs) (slotA E sz (.slice (some ⟨b, off, none⟩) n cap) n (nicL xs p vs) :: Js) := by
  obtain ⟨r1, r2, r3, r4, r5⟩ := setCells_rest vs w b (off + p)
  refine h.turn r1 r2 r3 (Nat.le_of_eq r4.symm) fun F hF => ?_
  obtain ⟨⟨hl, hs⟩, hF2⟩ := hF
  have hFb : ∀ c, F c ↔ c = b := fun c => by rw [hF2]; simp [Value.blk]
  refine ⟨fun c _ hc => r5 c fun e => hc ((hFb c).2 e), F, ⟨⟨by rw [nicL_size]; exact hl, ?_⟩, hF2⟩, fun c hc => .inl hc⟩
  rcases hs with ⟨hv, _⟩ | ⟨b', off', cap', cur, hv, h3, h4, h5, h6, h7, h8⟩
  · cases hv
  simp only [Value.slice.injEq, Option.some.injEq, Addr.mk.injEq, and_true, true_and] at hv
  obtain ⟨⟨rfl, rfl⟩, rfl⟩ := hv
  have hm := Nat.mul_le_mul_right sz h5
  refine .inr ⟨b, off, cap, nicRow cur (off + p) vs, rfl, h3, row_setCells vs w b (off + p) _ _ _ h4, h5, h6, by rw [nicRow_size]; exact h7, fun j hj => ?_⟩
  rw [nicL_in _ _ _ _ (by rw [hl]; exact hp)]
  have hroom : off + p + vs.length ≤ cur.size := by omega
  have e1 := nic_eq cur.toList vs (off + p) (by rw [Array.length_toList]; exact hroom)
  rw [Array.toArray_toList] at e1
  rw [e1, List.getElem?_toArray, nicL_in _ _ _ _ (by rw [Array.length_toList]; exact hroom)]
  by_cases hc : p ≤ j ∧ j < p + vs.length
  · rw [if_pos hc, if_pos (by omega)]; congr 1; omega
  · rw [if_neg hc, if_neg (by omega)]
    have := h8 j hj
    simpa using this
end
section
variable {P : Program} [TyEnv P] {o : Oper} {rd : Nat → AV} {T : TypeId} {i : TyI} {k : Nat}
theorem wp_loadX {a : Act} {w : World} {K : Act → World → Prop} {Q : Exit → Act → World → Prop} {x : Operand} (ho : o.op = .load T x) (hi : TyEnv.ti P T = some i) {b f : Nat} (hx : a.eval x = .pointer (some ⟨b, f, none⟩)) {us : List Value} (hc : ∀ j v, us[j]? = some v → w.cell? ⟨b, f + j, none⟩ = some v)
    {w0 : World} {D : Nat → Prop} {ρ : Nat → Value} {v : AV} (hm : if i.k.row then i.size ≤ us.length ∧ AR w0 D ρ v (.agg (us.take i.size).toArray) else ∃ u, us[0]? = some u ∧ AR w0 D ρ v u) (h : ∀ u, AR w0 D ρ v u → K (a.put o.dst u) w) : o.wp P a w K Q := by
  obtain ⟨d, hu, hrow⟩ := ty_und hi
  split at hm
  · rename_i hq
    refine wp_load_mid T x ho b f hx (us.take i.size) d (fun j v hj => ?_) hu (by rw [hrow, hq]) (by rw [List.length_take, Nat.min_eq_left hm.1]; exact ty_size hi) (h _ hm.2)
    rw [List.getElem?_take] at hj
    split at hj
    · exact hc j v hj
    · cases hj
  · rename_i hq
    obtain ⟨u, h1, h3⟩ := hm
    have hcell : w.cell? ⟨b, f, none⟩ = some u := hc 0 u h1
    have hagg : (isAgg T).run P w = .ok false w := by
      unfold isAgg
      rw [Sem.run_bind, run_underlying hu w]
      have : d.isRow = false := by rw [hrow]; simpa using hq
      cases d <;> simp_all
    have hr : (Instr.loadAt T (.pointer (some ⟨b, f, none⟩))).run P w = .ok u w := by
      simp only [Instr.loadAt, Instr.sureAddr, Sem.run_bind, Sem.run_pure, Result.andThen_ok, loadVar, hagg, Bool.false_eq_true, if_false]
      simp [hcell]
    unfold Oper.wp execOp
    simp only [ho, hx, Sem.run_bind, hr, Result.andThen_ok, Sem.run_pure]
    exact h u h3
theorem F2.plain {w0 : World} {D : Nat → Prop} {ρ : Nat → Value} : ∀ {us : List Value}, us.all (·.oneCell') = true → F2 (R w0 D ρ) (us.map .v) us
  | [], _ => .nil
  | u :: us, h => by
    simp only [List.all_cons, Bool.and_eq_true] at h
    exact .cons ⟨rfl, h.1⟩ (F2.plain h.2)
theorem all_drop {us : List Value} (h : us.all (·.oneCell') = true) (f : Nat) : (us.drop f).all (·.oneCell') = true := by
  rw [List.all_eq_true] at h ⊢
  exact fun x hx => h x (List.mem_of_mem_drop hx)
theorem tri_loadE {x : Operand} {sz j f : Nat} {es : List (List Value)} {e : List Value} {v : AV} (ho : o.op = .load T x) (hi : TyEnv.ti P T = some i) (hx : evo rd x = .one (.ep sz es j f)) (he : es[j]? = some e) (hv : mkv i ((e.drop f).map .v) = some v) : Tri P o rd [] v [] := by
  intro w0 w ρ n t H a Q hr ht hrs hfr hd
  have hx' := hr.ev x
  rw [evo_of (o := o) (by rw [ho]; simp [Op.operands]) ht, hx] at hx'
  obtain ⟨b, off, hx', hc⟩ := hx'
  obtain ⟨As, h2, _⟩ := hr.parts
  obtain ⟨b', off', e1, e2⟩ := (hc.ex h2.ex).2 (fun h => by subst h; simp at he)
  simp only [Option.some.injEq, Addr.mk.injEq, and_true] at e1
  obtain ⟨rfl, rfl⟩ := e1
  obtain ⟨hl, h1⟩ := hc.1 e (List.mem_of_getElem? he)
  have hm := mkv_R (w0 := w0) (D := dom H) (ρ := ρ) hv (F2.plain (all_drop h1 f))
  refine wp_loadX ho hi hx' (us := e.drop f) (fun m v hm => ?_) hm fun u hu => ⟨ρ, hr.put hu hd⟩
  rw [List.getElem?_drop] at hm
  have hlt := (List.getElem?_eq_some_iff.1 hm).1
  rw [Nat.add_assoc, e2 j e he (f + m) (by omega)]
  exact hm
theorem tri_loadA {x : Operand} {E : TypeId} {sz j f : Nat} {es : List (List Value)} {e : List Value} {v : AV} (ho : o.op = .load T x) (hi : TyEnv.ti P T = some i) (hx : evo rd x = .one (.ptr k j sz f)) (he : es[j]? = some e) (hv : mkv i ((e.drop f).map .v) = some v) : Tri P o rd [(k, .arr E sz es)] v [] := by
  intro w0 w ρ n t H a Q hr ht hrs hfr hd
  have hk := hrs k _ (List.mem_cons_self ..)
  obtain ⟨A, Js, ⟨hes, rfl⟩, h2, _⟩ := hr.focus hk
  have hx' := hr.ev x
  rw [evo_of (o := o) (by rw [ho]; simp [Op.operands]) ht, hx] at hx'
  obtain ⟨_, b, off, e1, hx'⟩ := hx'
  have hj := (List.getElem?_eq_some_iff.1 he).1
  obtain ⟨b', off', cap, hv', hc⟩ := slot_cells (h2.slot .head) (by omega)
  rw [hv'] at e1
  simp only [base, Option.some.injEq, Prod.mk.injEq] at e1
  obtain ⟨rfl, rfl⟩ := e1
  obtain ⟨hl, h1⟩ := hes e (List.mem_of_getElem? he)
  have hm := mkv_R (w0 := w0) (D := dom H) (ρ := ρ) hv (F2.plain (all_drop h1 f))
  refine wp_loadX ho hi hx' (us := e.drop f) (fun m v hm => ?_) hm fun u hu => ⟨ρ, hr.put hu hd⟩
  rw [List.getElem?_drop] at hm
  have hlt := (List.getElem?_eq_some_iff.1 hm).1
  have hjj := Nat.mul_le_mul_right sz (show j + 1 ≤ es.length from hj)
  rw [Nat.succ_mul] at hjj
  rw [Nat.add_assoc, Nat.add_assoc, (hc (j * sz + (f + m)) (by omega)).1, flat_at hes he (by omega)]
  exact hm
theorem spl_nic : ∀ {e us e' : List Value} {f : Nat}, spl e f us = some e' → e' = nicL e f us ∧ (us ≠ [] → f + us.length ≤ e.length)
  | e, [], e', f, h => by simp only [spl, Option.some.injEq] at h; subst h; exact ⟨by cases e <;> rfl, fun h => (h rfl).elim⟩
  | [], u :: us, e', f, h => by simp [spl] at h
  | c :: e, u :: us, e', 0, h => by
    simp only [spl, Option.map_eq_some_iff] at h
    obtain ⟨m, h1, rfl⟩ := h
    obtain ⟨rfl, h3⟩ := spl_nic h1
    refine ⟨rfl, fun _ => ?_⟩
    by_cases hu : us = []
    · subst hu; simp
    · have := h3 hu; simp at this ⊢; omega
  | c :: e, u :: us, e', f + 1, h => by
    simp only [spl, Option.map_eq_some_iff] at h
    obtain ⟨m, h1, rfl⟩ := h
    obtain ⟨rfl, h3⟩ := spl_nic h1
    exact ⟨rfl, fun _ => by have := h3 (by simp); simp at this ⊢; omega⟩
theorem nicL_all1 {e us : List Value} {f : Nat} (h1 : e.all (·.oneCell') = true) (h2 : us.all (·.oneCell') = true) : (nicL e f us).all (·.oneCell') = true := by
  induction e generalizing f us with
  | nil => cases us <;> rfl
  | cons c e ih =>
    cases us with
    | nil => exact h1
    | cons u us =>
      simp only [List.all_cons, Bool.and_eq_true] at h1 h2
      cases f with
      | zero => simp only [nicL, List.all_cons, Bool.and_eq_true]; exact ⟨h2.1, ih h1.2 h2.2⟩
      | succ f => simp only [nicL, List.all_cons, Bool.and_eq_true]; exact ⟨h1.1, ih h1.2 (by simp only [List.all_cons, Bool.and_eq_true]; exact h2)⟩
theorem tri_storeA {x y : Operand} {E : TypeId} {sz j f : Nat} {es : List (List Value)} {e e' : List Value} {vs : List PV} {us : List Value} (ho : o.op = .store T x y) (hn : o.dst = none) (hi : TyEnv.ti P T = some i) (hx : evo rd x = .one (.ptr k j sz f)) (he : es[j]? = some e)
    (hy : cellsO (evo rd y) = some vs) (hp : plainV vs = some us) (hl : us.length = i.size) (hv : spl e f us = some e') : Tri P o rd [(k, .arr E sz es)] .junk [(k, .arr E sz (es.set j e'))] := by
  intro w0 w ρ n t H a Q hr ht hrs hfr hd
  have hk := hrs k _ (List.mem_cons_self ..)
  obtain ⟨A, Js, ⟨hes, rfl⟩, h2, h3, _⟩ := hr.focus hk
  have hx' := hr.ev x
  rw [evo_of (o := o) (by rw [ho]; simp [Op.operands]) ht, hx] at hx'
  obtain ⟨_, b, off, e1, hx'⟩ := hx'
  have hj := (List.getElem?_eq_some_iff.1 he).1
  obtain ⟨b', off', cap, hv', hc⟩ := slot_cells (h2.slot .head) (by omega)
  rw [hv'] at e1
  simp only [base, Option.some.injEq, Prod.mk.injEq] at e1
  obtain ⟨rfl, rfl⟩ := e1
  obtain ⟨hel, hone⟩ := hes e (List.mem_of_getElem? he)
  have hy' := hr.ev y
  rw [evo_of (o := o) (by rw [ho]; simp [Op.operands]) ht] at hy'
  have hcs := cells_R hy' hy
  rw [plainV_some hp] at hcs
  obtain ⟨q1, q2⟩ := F2.map_v hcs
  obtain ⟨rfl, hbd⟩ := spl_nic hv
  have hpos := ty_pos hi
  have hbd := hbd (fun h => by rw [h] at hl; simp at hl; omega)
  have hjj := Nat.mul_le_mul_right sz (show j + 1 ≤ es.length from hj)
  rw [Nat.succ_mul] at hjj
  rw [hv'] at h2
  have hS := St.setS h2 (p := j * sz + f) (vs := us) (by omega)
  have hth : w.there b' (off' + j * sz + f) (a.eval y).cells.size := fun m hm => by
    rw [← Array.length_toList, q1] at hm
    have hcm := hc (j * sz + (f + m)) (by omega)
    rw [show off' + j * sz + f + m = off' + (j * sz + (f + m)) from by omega]
    refine ⟨?_, hcm.2⟩
    rw [hcm.1, flat_at hes he (by omega), List.getElem?_eq_getElem (by omega)]; rfl
  have hsz : (a.eval y).cells.size = i.size := by rw [← Array.length_toList, q1, hl]
  have hsv : (storeVar T ⟨b', off' + j * sz + f, none⟩ (a.eval y)).run P w = .ok () (w.setCells b' (off' + j * sz + f) (a.eval y).cells.toList) := by
    have h0 := run_storeVar_mid (P := P) w b' (off' + j * sz + f) T (a.eval y).cells hth (by rw [hsz]; exact ty_size hi) (by rw [← Array.all_toList, q1]; exact q2)
    cases hq : a.eval y <;> rw [hq] at h0 <;> first | exact h0 | (simp only [storeVar, Value.cells] at h0 ⊢; exact h0)
  have hr' : (Instr.storeAt T (.pointer (some ⟨b', off' + j * sz + f, none⟩)) (a.eval y)).run P w = .ok () (w.setCells b' (off' + j * sz + f) us) := by
    rw [← q1]
    simp only [Instr.storeAt, Instr.sureAddr, Sem.run_bind, Sem.run_pure, Result.andThen_ok, hsv]
  unfold Oper.wp execOp
  simp only [ho, hx', Sem.run_bind, hr', Result.andThen_ok, Sem.run_pure]
  show ∃ ρ', Rel w0 _ ρ' n (putT t o.dst .junk) _ (a.put o.dst undef)
  rw [hn]
  refine ⟨ρ, h3 _ (.arr E sz (es.set j (nicL e f us))) (slotA E sz (ρ k) (es.set j (nicL e f us)).length (es.set j (nicL e f us)).flatten) ⟨fun e' he' => ?_, rfl⟩ ?_⟩
  · rcases List.mem_or_eq_of_mem_set he' with h | h
    · exact hes e' h
    · rw [h]; exact ⟨by rw [nicL_size, hel], nicL_all1 hone q2⟩
  · rw [List.length_set, flat_set hes he (by omega), hv', Nat.add_assoc]
    exact hS
end
end Go.Vc
end
section
namespace Go.Vc
open Go Go.RowKit
set_option linter.unusedVariables false
set_option linter.unusedSimpArgs false
set_option linter.unnecessarySimpa false
set_option linter.unusedSectionVars false
def elemsO (sz : Nat) : List AV → Option (List (List Value))
  | [] => some []
  | x :: l => match (cellsO x).bind plainV with
    | some us => if us.length = sz then consO us (elemsO sz l) else none
    | none => none
def bytesE (s : ByteArray) : List (List Value) := s.data.toList.map fun b => [.int .u8 (b.toNat : Int)]
theorem bytesE_flat (s : ByteArray) : (bytesE s).flatten = byteCells s := by
  rw [byteCells_list]
  unfold bytesE
  generalize s.data.toList = l
  induction l with
  | nil => rfl
  | cons b l ih => rw [List.map_cons, List.flatten_cons, ih]; rfl
theorem bytesE_len (s : ByteArray) : (bytesE s).length = s.size := by unfold bytesE; rw [List.length_map, Array.length_toList]; rfl
theorem bytesE_ok (s : ByteArray) : ∀ e ∈ bytesE s, e.length = 1 ∧ e.all (·.oneCell') = true := by
  intro e he
  obtain ⟨b, _, rfl⟩ := List.mem_map.1 he
  exact ⟨rfl, rfl⟩
section
variable {P : Program} [TyEnv P] {o : Oper} {rd : Nat → AV} {T e : TypeId} {i : TyI} {k j : Nat}
theorem rowSlotN {w0 w : World} {Js : List Asn} {b n sz : Nat} {cs : List Value} {E : TypeId} (h : St w0 w (rowA b cs E :: Js)) (hn : cs.length = n * sz) (hm : n ≤ maxLen) : St w0 w (slotA E sz (.slice (some ⟨b, 0, none⟩) n n) n cs :: Js) :=
  h.same fun F hF => ⟨F, ⟨⟨hn, .inr ⟨b, 0, n, cs.toArray, rfl, Nat.zero_le _, hF.1, Nat.le_refl _, hm, by simp [hn], fun j hj => by simp⟩⟩, fun c => by rw [hF.2]; simp [Value.blk]⟩, fun _ h => h⟩
theorem elems_R {w0 : World} {D : Nat → Prop} {ρ : Nat → Value} {sz : Nat} : ∀ {xs : List AV} {us : List Value} {es : List (List Value)}, F2 (AR w0 D ρ) xs us → elemsO sz xs = some es →
    es.length = us.length ∧ (us.flatMap fun v => v.cells.toList) = es.flatten ∧ (us.all fun v => v.cells.size == sz) = true ∧ ∀ e ∈ es, e.length = sz ∧ e.all (·.oneCell') = true
  | [], _, es, .nil, h => by simp only [elemsO, consO_eq, Option.some.injEq] at h; subst h; exact ⟨rfl, rfl, rfl, fun e he => by cases he⟩
  | x :: xs, _, es, .cons hx hr, h => by
    simp only [elemsO, consO_eq] at h
    split at h
    · rename_i us hb
      split at h
      · rename_i hl
        obtain ⟨es', h1, rfl⟩ := Option.map_eq_some_iff.1 h
        obtain ⟨q1, q2, q3, q4⟩ := elems_R hr h1
        obtain ⟨cs, c1, c2⟩ := Option.bind_eq_some_iff.1 hb
        have hc := cells_R hx c1
        rw [plainV_some c2] at hc
        obtain ⟨r1, r2⟩ := F2.map_v hc
        refine ⟨by simp [q1], by simp [q2, r1], ?_, fun e he => ?_⟩
        · simp only [List.all_cons, Bool.and_eq_true, beq_iff_eq]
          exact ⟨by rw [← Array.length_toList, r1, hl], q3⟩
        · rcases List.mem_cons.1 he with rfl | he
          · exact ⟨hl, r2⟩
          · exact q4 e he
      · cases h
    · cases h
theorem tri_bslice {ei : TyI} {m : Nat} {parts : Array (Nat × Operand)} {ys : List Operand} {es : List (List Value)} (ho : o.op = .buildSlice T m parts) (hi : TyEnv.ti P T = some i) (hk : i.k = .slice e) (hei : TyEnv.ti P e = some ei) (hparts : parts.toList = (ys.zipIdx 0).map fun x => (x.2, x.1))
    (hn : ys.length = m) (hm : m * ei.size ≤ 16777216) (he : elemsO ei.size (ys.map (evo rd)) = some es) : Tri P o rd [] (.one (.hs k)) [(k, .arr e ei.size es)] := by
  intro w0 w ρ n t H a Q hr ht hrs hfr hd
  have hlk : lk H k = none := (hfr k _ (List.mem_cons_self ..)).resolve_left (by rintro ⟨_, h⟩; cases h)
  obtain ⟨As, h2, h3⟩ := hr.parts
  have hu : P.underlying T = some (.slice e) := by have := ty_kind hi; rw [hk] at this; exact this
  obtain ⟨z, hz, _⟩ := ty_info hei
  have hF : F2 (AR w0 (dom H) ρ) (ys.map (evo rd)) (ys.map a.eval) := by
    have : ∀ l : List Operand, (∀ y ∈ l, y ∈ ys) → F2 (AR w0 (dom H) ρ) (l.map (evo rd)) (l.map a.eval) := by
      intro l
      induction l with
      | nil => intro _; exact .nil
      | cons y l ih =>
        intro hl
        refine .cons ?_ (ih fun y hy => hl y (List.mem_cons_of_mem _ hy))
        have := hr.ev y
        rw [evo_of (o := o) (by
          rw [ho]; simp only [Op.operands, hparts, List.map_map]
          have hy := hl y (List.mem_cons_self ..)
          rw [show (((fun x : Nat × Operand => x.2) ∘ fun x : Operand × Nat => (x.2, x.1))) = Prod.fst from rfl]
          simpa using hy) ht] at this
        exact this
    exact this ys fun _ h => h
  obtain ⟨q1, q2, q3, q4⟩ := elems_R hF he
  rw [List.length_map, hn] at q1
  by_cases h0 : m = 0
  · subst h0
    have hes : es = [] := List.eq_nil_of_length_eq_zero q1
    subst hes
    have hp : parts = #[] := by
      have : ys = [] := List.eq_nil_of_length_eq_zero hn
      subst this
      exact Array.toList_eq_nil_iff.1 (by simpa using hparts)
    subst hp
    refine wp_bslice0_st T ho e hu hz h2 fun w' b hb hS => ?_
    have g := h3 w' k (.arr e ei.size []) (.slice (some ⟨b, 0, none⟩) 0 0) (slotA e ei.size (.slice (some ⟨b, 0, none⟩) 0 0) 0 []) hlk ⟨q4, by rw [upρ_self]; rfl⟩ (hS.slotMade _ .head)
    exact ⟨_, g.put ⟨dom_upd1.2 (.inl rfl), (upρ_self ..).symm, rfl⟩ hd⟩
  · refine wp_bsliceN_st T m parts ho e hu hz (ty_pos hei) ys hparts hn (by omega) hm rfl q3 q2 h2 fun w' b hb hS => ?_
    have hS := rowSlotN (sz := ei.size) (n := m) hS (by rw [flat_len q4, q1]) (by
      have := Nat.le_mul_of_pos_right m (ty_pos hei)
      unfold maxLen; omega)
    have g := h3 w' k (.arr e ei.size es) (.slice (some ⟨b, 0, none⟩) m m) (slotA e ei.size (.slice (some ⟨b, 0, none⟩) m m) m es.flatten) hlk ⟨q4, by rw [upρ_self, q1]⟩ hS
    exact ⟨_, g.put ⟨dom_upd1.2 (.inl rfl), (upρ_self ..).symm, rfl⟩ hd⟩
theorem made_flat (z : Array Value) (hz : 0 < z.size) (l : Nat) : ∀ j, j < l * z.size → ∀ m, l * z.size ≤ m → (madeCells z m)[j]? = (List.replicate l z.toList).flatten[j]? := by
  intro j hj m hm
  rw [madeCells_at _ _ _ (by omega) hz]
  have h1 : j / z.size < l := Nat.div_lt_of_lt_mul (by rw [Nat.mul_comm]; exact hj)
  have h2 := Nat.mod_lt j hz
  have h3 : j / z.size * z.size + j % z.size = j := Nat.div_add_mod' j z.size
  have key : ∀ (l q r : Nat), q < l → r < z.size → (List.replicate l z.toList).flatten[q * z.size + r]? = z.toList[r]? := by
    intro l
    induction l with
    | zero => intro q r h; omega
    | succ l ih =>
      intro q r hq hr
      rw [List.replicate_succ, List.flatten_cons]
      cases q with
      | zero => rw [Nat.zero_mul, Nat.zero_add, List.getElem?_append_left (by simpa using hr)]
      | succ q =>
        rw [List.getElem?_append_right (by rw [Array.length_toList, Nat.succ_mul]; omega), Array.length_toList, show (q + 1) * z.size + r - z.size = q * z.size + r from by rw [Nat.succ_mul]; omega]
        exact ih q r (by omega) hr
  have := key l (j / z.size) (j % z.size) h1 h2
  rw [h3] at this
  rw [this]; simp
theorem tri_make {ei : TyI} {x y : Operand} {l c : Int} {zs : List Value} (ho : o.op = .makeSlice T x y) (hi : TyEnv.ti P T = some i) (hk : i.k = .slice e) (hei : TyEnv.ti P e = some ei) (hx : evo rd x = .one (.v (.int .i64 l))) (hy : evo rd y = .one (.v (.int .i64 c)))
    (h0 : 0 ≤ l) (hlc : l ≤ c) (hb : (ei.bytes : Int) * c ≤ 281474976710656) (hc : c ≤ maxLen) (hz : plainV ei.zero = some zs) : Tri P o rd [] (.one (.hs k)) [(k, .arr e ei.size (List.replicate l.toNat zs))] := by
  intro w0 w ρ n t H a Q hr ht hrs hfr hd
  have hlk : lk H k = none := (hfr k _ (List.mem_cons_self ..)).resolve_left (by rintro ⟨_, h⟩; cases h)
  obtain ⟨As, h2, h3⟩ := hr.parts
  have hu : P.underlying T = some (.slice e) := by have := ty_kind hi; rw [hk] at this; exact this
  obtain ⟨⟨z, z1, z2, z3, z4⟩, _⟩ := TyEnv.ok e ei hei
  obtain ⟨inf, i1, i2⟩ := Option.map_eq_some_iff.1 z1
  simp only [Prod.mk.injEq] at i2
  obtain ⟨i2, i3, i4⟩ := i2
  have hx' := hr.ev x
  rw [evo_of (o := o) (by rw [ho]; simp [Op.operands]) ht, hx] at hx'
  have hy' := hr.ev y
  rw [evo_of (o := o) (by rw [ho]; simp [Op.operands]) ht, hy] at hy'
  have hzl : z.cells.toList = zs := by
    rw [z2, plainV_some hz, List.map_map]
    exact List.map_id' zs
  have hzs : z.cells.size = ei.size := by rw [← Array.length_toList, z2, List.length_map, z3]
  have hone : zs.all (·.oneCell') = true := by
    rw [plainV_some hz] at z4
    rw [List.all_map] at z4
    exact z4
  have hpos := ty_pos hei
  have hr' := run_make (P := P) w T e inf z hu i1 i2 .i64 .i64 l c h0 hlc (by rw [i4]; exact hb) (by unfold maxLen at hc; omega)
  have hh := h2.alloc (madeCells z.cells (c.toNat * inf.size)) e
  unfold Oper.wp execOp
  simp only [ho, hx'.1, hy'.1, Sem.run_bind, hr', Result.andThen_ok, Sem.run_pure]
  have hS : St w0 (w.alloc (.cells (madeCells z.cells (c.toNat * inf.size)) e)) (slotA e ei.size (.slice (some ⟨w.heap.size, 0, none⟩) l.toNat c.toNat) l.toNat (List.replicate l.toNat zs).flatten :: As) := by
    refine hh.same fun F hF => ⟨F, ⟨⟨?_, .inr ⟨_, 0, c.toNat, _, rfl, Nat.zero_le _, hF.1, by omega, by omega, ?_, fun m hm => ?_⟩⟩, fun b => by rw [hF.2]; simp [Value.blk]⟩, fun _ h => h⟩
    · rw [flat_len (sz := ei.size) (fun e he => by rw [List.eq_of_mem_replicate he]; exact ⟨by rw [← hzl, Array.length_toList, hzs], hone⟩), List.length_replicate]
    · rw [Array.toArray_toList, size_madeCells, i3, Nat.zero_add]; exact Nat.le_refl _
    · have hcl := Nat.mul_le_mul_right ei.size (show l.toNat ≤ c.toNat from by omega)
      rw [Nat.zero_add, List.getElem?_toArray]
      have := made_flat z.cells (by omega) l.toNat m (by rw [hzs]; exact hm) (c.toNat * inf.size) (by rw [hzs, i3]; exact hcl)
      rw [← hzl, ← this]
      simp
  have g := h3 _ k (.arr e ei.size (List.replicate l.toNat zs)) (.slice (some ⟨w.heap.size, 0, none⟩) l.toNat c.toNat) _ hlk ⟨fun e he => by rw [List.eq_of_mem_replicate he]; exact ⟨by rw [← hzl, Array.length_toList, hzs], hone⟩, by rw [upρ_self, List.length_replicate]⟩ hS
  exact ⟨_, g.put ⟨dom_upd1.2 (.inl rfl), (upρ_self ..).symm, rfl⟩ hd⟩
def SrcOk (P : Program) (rd : Nat → AV) (y : Operand) (tx : TypeId) (sz : Nat) (new : List (List Value)) (rs : Hp) : Prop :=
  ∀ (w0 w : World) (ρ : Nat → Value) (n : Nat) (t : Tm) (H : Hp) (a : Act), Rel w0 w ρ n t H a → evo (gt t) y = evo rd y → (∀ k b, (k, b) ∈ rs → lk H k = some b) → (∀ e ∈ new, e.length = sz ∧ e.all (·.oneCell') = true) ∧ Src P sz tx (a.eval y) new.length new.flatten w
theorem add_plain (b f : Nat) (j : Nat) : (⟨b, f, none⟩ : Addr).add j = ⟨b, f + j, none⟩ := by unfold Addr.add; split <;> simp_all
theorem src_cells {w : World} {tx e' : TypeId} (hk : P.underlying tx = some (.slice e')) {b off m c sz : Nat} {new : List (List Value)} (h : ∀ e ∈ new, e.length = sz ∧ e.all (·.oneCell') = true) (hm : m = new.length) (hc : ∀ j, j < new.length * sz → w.cell? ⟨b, off + j, none⟩ = new.flatten[j]?) : Src P sz tx (.slice (some ⟨b, off, none⟩) m c) new.length new.flatten w := by
  subst hm
  refine Src.ofSlice w hk _ _ _ _ (by rw [flat_len h]) (fun j u hj => ?_) fun u hu => ?_
  · rw [add_plain, hc j (by rw [← flat_len h]; exact (List.getElem?_eq_some_iff.1 hj).1), hj]
  · obtain ⟨e, he, hue⟩ := List.mem_flatten.1 hu
    exact List.all_eq_true.1 (h e he).2 u hue
theorem src_hs {y : Operand} {tx e' : TypeId} (hk : P.underlying tx = some (.slice e')) {E : TypeId} {sz : Nat} {new : List (List Value)} (hy : evo rd y = .one (.hs j)) : SrcOk P rd y tx sz new [(j, .arr E sz new)] := by
  intro w0 w ρ n t H a hr ht hrs
  obtain ⟨A, Js, ⟨hok, rfl⟩, h2, _⟩ := hr.focus (hrs j _ (List.mem_cons_self ..))
  refine ⟨hok, ?_⟩
  have hy' := hr.ev y
  rw [ht, hy] at hy'
  obtain ⟨_, hy', _⟩ := hy'
  rw [hy']
  have hsl := h2.slot .head
  by_cases h0 : new = []
  · subst h0
    obtain ⟨_, ⟨hv, _⟩ | ⟨b, off, cap, cur, hv, _⟩⟩ := hsl
    · rw [hv]; exact Src.ofNil _ hk _
    · rw [hv]; exact src_cells hk (by simp) rfl (by simp)
  · obtain ⟨b, off, cap, hv, hc⟩ := slot_cells hsl (List.length_pos_iff.2 h0)
    rw [hv]
    exact src_cells hk hok rfl fun j hj => (hc j hj).1
theorem flat_drop {sz : Nat} : ∀ (l : Nat) {es : List (List Value)}, (∀ e ∈ es, e.length = sz) → (es.drop l).flatten = es.flatten.drop (l * sz)
  | 0, es, h => by simp
  | l + 1, [], h => by simp
  | l + 1, e :: es, h => by
    have h1 := h e (List.mem_cons_self ..)
    rw [List.drop_succ_cons, flat_drop l fun x hx => h x (List.mem_cons_of_mem _ hx), List.flatten_cons, Nat.add_mul, Nat.one_mul, Nat.add_comm (l * sz) sz, ← List.drop_drop, ← h1, List.drop_left]
theorem src_hc {y : Operand} {tx e' : TypeId} (hk : P.underlying tx = some (.slice e')) {E : TypeId} {sz l : Nat} {new : List (List Value)} (hy : evo rd y = .one (.hc j l sz)) : SrcOk P rd y tx sz (new.drop l) [(j, .arr E sz new)] := by
  intro w0 w ρ n t H a hr ht hrs
  obtain ⟨A, Js, ⟨hok, rfl⟩, h2, _⟩ := hr.focus (hrs j _ (List.mem_cons_self ..))
  have hok' : ∀ e ∈ new.drop l, e.length = sz ∧ e.all (·.oneCell') = true := fun e he => hok e (List.mem_of_mem_drop he)
  refine ⟨hok', ?_⟩
  have hy' := hr.ev y
  rw [ht, hy] at hy'
  obtain ⟨_, av, nv, Cv, e1, hy'⟩ := hy'
  rw [hy']
  have hsl := h2.slot .head
  rw [e1] at hsl
  have hn : nv = new.length := by
    obtain ⟨_, ⟨hv, h0⟩ | ⟨b, off, cap, cur, hv, _⟩⟩ := hsl
    · simp only [Value.slice.injEq] at hv; omega
    · simp only [Value.slice.injEq] at hv; exact hv.2.1
  subst hn
  by_cases h0 : new.drop l = []
  · rw [h0]
    have : new.length - l = 0 := by rw [← List.length_drop, h0]; rfl
    rw [this]
    cases cutA av l Cv sz with
    | none => exact Src.ofNil _ hk _
    | some ad => exact Src.ofSlice _ hk _ _ _ _ (by simp) (by simp) (by simp)
  · have hlt : l < new.length := by
      rcases Nat.lt_or_ge l new.length with h | h
      · exact h
      · exact (h0 (List.drop_eq_nil_of_le h)).elim
    obtain ⟨b, off, cap, hv, hc⟩ := slot_cells hsl (by omega)
    simp only [Value.slice.injEq, true_and] at hv
    obtain ⟨rfl, rfl⟩ := hv
    have hcap : new.length ≤ Cv := by
      obtain ⟨_, ⟨hv, _⟩ | ⟨b', off', cap', cur', hv, _, _, h5, _⟩⟩ := hsl
      · simp at hv
      · simp only [Value.slice.injEq, true_and] at hv
        obtain ⟨_, rfl⟩ := hv
        exact h5
    unfold cutA
    rw [if_neg (by omega)]
    simp only [Option.map_some, addr_add]
    refine src_cells hk hok' (by rw [List.length_drop]) fun q hq => ?_
    rw [List.length_drop] at hq
    have hlt2 : l * sz + q < new.length * sz := by
      have : (new.length - l) * sz + l * sz = new.length * sz := by rw [← Nat.add_mul]; congr 1; omega
      omega
    rw [Nat.add_assoc, (hc (l * sz + q) hlt2).1, flat_drop l fun e he => (hok e he).1, List.getElem?_drop]
theorem src_sl {y : Operand} {tx e' : TypeId} (hk : P.underlying tx = some (.slice e')) {sz : Nat} {new : List (List Value)} (hy : evo rd y = .one (.sl sz new)) : SrcOk P rd y tx sz new [] := by
  intro w0 w ρ n t H a hr ht hrs
  have hy' := hr.ev y
  rw [ht, hy] at hy'
  obtain ⟨A, cap, hy', h1, h2, h3⟩ := hy'
  have hok := h3.1
  refine ⟨hok, ?_⟩
  obtain ⟨As, g2, _⟩ := hr.parts
  rw [hy']
  by_cases h0 : new = []
  · subst h0
    cases A with
    | none => exact Src.ofNil _ hk _
    | some ad => exact Src.ofSlice _ hk _ _ _ _ (by simp) (by simp) (by simp)
  · obtain ⟨b, off, rfl, hc⟩ := (h3.ex g2.ex).2 h0
    refine src_cells hk hok rfl fun m hm => ?_
    have hsz : 0 < sz := by rcases Nat.eq_zero_or_pos sz with h | h; · subst h; simp at hm
                            · exact h
    have hq : m / sz < new.length := Nat.div_lt_of_lt_mul (by rw [Nat.mul_comm]; exact hm)
    have hr := Nat.mod_lt m hsz
    have hkk : m / sz * sz + m % sz = m := Nat.div_add_mod' m sz
    have e1 := hc (m / sz) _ (List.getElem?_eq_getElem hq) (m % sz) hr
    have e2 := flat_at hok (List.getElem?_eq_getElem hq) hr
    rw [hkk] at e2
    rw [e2, ← e1, Nat.add_assoc, hkk]
theorem src_nil {y : Operand} {tx e' : TypeId} (hk : P.underlying tx = some (.slice e')) {sz : Nat} (hy : evo rd y = .one .nil) : SrcOk P rd y tx sz [] [] := by
  intro w0 w ρ n t H a hr ht hrs
  refine ⟨fun e he => (by cases he), ?_⟩
  have hy' := hr.ev y
  rw [ht, hy] at hy'
  have hy' : a.eval y = .slice none 0 0 := hy'
  rw [hy']
  exact Src.ofNil _ hk _
theorem src_str {y : Operand} {tx : TypeId} (hk : P.underlying tx = some .string) {s : ByteArray} (hy : evo rd y = .one (.v (.string s))) : SrcOk P rd y tx 1 (bytesE s) [] := by
  intro w0 w ρ n t H a hr ht hrs
  refine ⟨bytesE_ok s, ?_⟩
  have hy' := hr.ev y
  rw [ht, hy] at hy'
  rw [hy'.1, bytesE_len, bytesE_flat]
  exact Src.ofString _ hk s
theorem tri_append {ei : TyI} {x y : Operand} {tx : TypeId} {es new : List (List Value)} {rs : Hp} (ho : o.op = .call { callee := .builtin .append, args := #[x, y], argTypes := #[T, tx] }) (hi : TyEnv.ti P T = some i) (hk : i.k = .slice e) (hei : TyEnv.ti P e = some ei) (hx : evo rd x = .one (.hs j))
    (hs : SrcOk P rd y tx ei.size new rs) (hm : es.length + new.length ≤ maxLen) (hb : (es.length + new.length) * ei.bytes ≤ 140737488355328) (hkj : k ≠ j) (hkr : ∀ b, (k, b) ∉ rs) : Tri P o rd ((j, .arr e ei.size es) :: rs) (.one (.hs k)) [(j, .dead), (k, .arr e ei.size (es ++ new))] := by
  intro w0 w ρ n t H a Q hr ht hrs hfr hd
  have hlj := hrs j _ (List.mem_cons_self ..)
  have hlk : lk H k = none := (hfr k (.arr e ei.size (es ++ new)) (List.mem_cons_of_mem _ (List.mem_cons_self ..))).resolve_left (by
    rintro ⟨b, hb⟩
    rcases List.mem_cons.1 hb with h | h
    · simp only [Prod.mk.injEq] at h; exact hkj h.1
    · exact hkr b h)
  obtain ⟨A, Js, ⟨hes, rfl⟩, h2, _, h4⟩ := hr.focus hlj
  have hu : P.underlying T = some (.slice e) := by have := ty_kind hi; rw [hk] at this; exact this
  obtain ⟨z, hz, _⟩ := ty_info hei
  have hx' := hr.ev x
  rw [evo_of (o := o) (by rw [ho]; simp [Op.operands, Call.operands]) ht, hx] at hx'
  obtain ⟨_, hx', _⟩ := hx'
  obtain ⟨hnew, hsrc⟩ := hs w0 w ρ n t H a hr (evo_of (o := o) (by rw [ho]; simp [Op.operands, Call.operands]) ht) fun k b hb => hrs k b (List.mem_cons_of_mem _ hb)
  refine wp_app_st x y T tx ho e hu hz hx' h2 .head rfl hsrc hm hb fun A c w' hsz hS => ?_
  have hok : ∀ e' ∈ es ++ new, e'.length = ei.size ∧ e'.all (·.oneCell') = true := fun e' he => (List.mem_append.1 he).elim (hes e') (hnew e')
  have g := h4 w' k (.arr e ei.size (es ++ new)) (.slice A (es.length + new.length) c) (slotA e ei.size (.slice A (es.length + new.length) c) (es.length + new.length) (es.flatten ++ new.flatten)) hlk
    (fun D => ⟨hok, by rw [upρ_self, List.length_append, List.flatten_append]⟩) hS
  exact ⟨_, g.put ⟨dom_upd1.2 (.inl rfl), (upρ_self ..).symm, rfl⟩ hd⟩
theorem tri_appendN {ei : TyI} {x y : Operand} {tx : TypeId} {new : List (List Value)} {rs : Hp} (ho : o.op = .call { callee := .builtin .append, args := #[x, y], argTypes := #[T, tx] }) (hi : TyEnv.ti P T = some i) (hk : i.k = .slice e) (hei : TyEnv.ti P e = some ei) (hx : evo rd x = .one .nil)
    (hs : SrcOk P rd y tx ei.size new rs) (hm : new.length ≤ maxLen) (hb : new.length * ei.bytes ≤ 140737488355328) (hkr : ∀ b, (k, b) ∉ rs) : Tri P o rd rs (.one (.hs k)) [(k, .arr e ei.size new)] := by
  intro w0 w ρ n t H a Q hr ht hrs hfr hd
  have hlk : lk H k = none := (hfr k _ (List.mem_cons_self ..)).resolve_left (by rintro ⟨b, hb⟩; exact hkr b hb)
  obtain ⟨As, h2, h3⟩ := hr.parts
  have hu : P.underlying T = some (.slice e) := by have := ty_kind hi; rw [hk] at this; exact this
  obtain ⟨z, hz, _⟩ := ty_info hei
  have hx' := hr.ev x
  rw [evo_of (o := o) (by rw [ho]; simp [Op.operands, Call.operands]) ht, hx] at hx'
  obtain ⟨hnew, hsrc⟩ := hs w0 w ρ n t H a hr (evo_of (o := o) (by rw [ho]; simp [Op.operands, Call.operands]) ht) hrs
  refine wp_app_st x y T tx ho e hu hz hx' (h2.slotNil e ei.size) .head rfl hsrc (by rw [Nat.zero_add]; exact hm) (by rw [Nat.zero_add]; exact hb) fun A c w' hsz hS => ?_
  rw [Nat.zero_add] at hS ⊢
  have g := h3 w' k (.arr e ei.size new) (.slice A new.length c) (slotA e ei.size (.slice A new.length c) new.length ([] ++ new.flatten)) hlk
    ⟨hnew, by rw [upρ_self, List.nil_append]⟩ hS
  exact ⟨_, g.put ⟨dom_upd1.2 (.inl rfl), (upρ_self ..).symm, rfl⟩ hd⟩
end
end Go.Vc
end
section
namespace Go.Vc
open Go Go.RowKit
set_option linter.unusedVariables false
set_option linter.unusedSimpArgs false
set_option linter.unnecessarySimpa false
set_option linter.unusedSectionVars false
section
variable {P : Program} [TyEnv P] {o : Oper} {rd : Nat → AV} {T e : TypeId} {i : TyI} {k j : Nat}
theorem AR.int {w0 : World} {D : Nat → Prop} {ρ : Nat → Value} {v u : Value} (h : AR w0 D ρ (.one (.v v)) u) : u = v := h.1
theorem ty_slice (hi : TyEnv.ti P T = some i) (hk : i.k = .slice e) : P.underlying T = some (.slice e) := by have := ty_kind hi; rw [hk] at this; exact this
theorem ty_str (hi : TyEnv.ti P T = some i) (hk : i.k = .str) : P.underlying T = some .string := by have := ty_kind hi; rw [hk] at this; exact this
theorem elem_of (h : P.underlying T = some (.slice e)) : P.elem T = e := by simp [Program.elem, h]
theorem tri_move {x : Operand} (ho : o.op = .move x ∨ o.op = .assign x) : Tri P o rd [] (evo rd x) [] := by
  refine tri_pure fun w0 w D ρ a h hx => ?_
  rcases ho with ho | ho <;> exact ⟨a.eval x, by simp [execOp, ho], h x (by simp [ho, Op.operands])⟩
theorem tri_pick {c x y : Operand} {b : Bool} (ho : o.op = .pick c x y) (hc : evo rd c = .one (.v (.bool b))) : Tri P o rd [] (bif b then evo rd x else evo rd y) [] := by
  refine tri_pure fun w0 w D ρ a h hx => ?_
  have h1 := h c (by simp [ho, Op.operands])
  rw [hc] at h1
  have h2 := h x (by simp [ho, Op.operands])
  have h3 := h y (by simp [ho, Op.operands])
  refine ⟨if b then a.eval x else a.eval y, by simp [execOp, ho, AR.int h1, asBool], ?_⟩
  cases b
  · exact h3
  · exact h2
theorem ar_v {w0 : World} {D : Nat → Prop} {ρ : Nat → Value} {v : Value} (h : v.oneCell' = true) : AR w0 D ρ (.one (.v v)) v := ⟨rfl, h⟩
theorem tri_int {op : BinOp} {T' : TypeId} {x y : Operand} {a b : Int} {v : Value} (ho : o.op = .binOp op T x y T') (hx : evo rd x = .one (.v (.int .i64 a))) (hy : evo rd y = .one (.v (.int .i64 b))) (h : intB op a b = some v) : Tri P o rd [] (.one (.v v)) [] := by
  refine tri_pure fun w0 w D ρ ac hh hex => ?_
  have h1 := hh x (by simp [ho, Op.operands])
  have h2 := hh y (by simp [ho, Op.operands])
  rw [hx] at h1; rw [hy] at h2
  refine ⟨v, ?_, ar_v ?_⟩
  · have := run_intB P w h T T' x y ac.eval (AR.int h1) (AR.int h2) o.dst o.type o.pos o.after o.guard
    rw [← this]
    cases o
    simp only at ho
    subst ho
    rfl
  · cases op <;> simp only [intB, Option.some.injEq, reduceCtorEq] at h <;> subst h <;> rfl
theorem tri_div {op : BinOp} {T' : TypeId} {x y : Operand} {a b : Int} {v : Value} (ho : o.op = .binOp op T x y T') (hx : evo rd x = .one (.v (.int .i64 a))) (hy : evo rd y = .one (.v (.int .i64 b))) (hb : b ≠ 0) (h : divB op a b = some v) : Tri P o rd [] (.one (.v v)) [] := by
  refine tri_pure fun w0 w D ρ ac hh hex => ?_
  have h1 := hh x (by simp [ho, Op.operands])
  have h2 := hh y (by simp [ho, Op.operands])
  rw [hx] at h1; rw [hy] at h2
  refine ⟨v, ?_, ar_v ?_⟩
  · cases op <;> simp only [divB, Option.some.injEq, reduceCtorEq] at h <;> subst h <;> simp [execOp, ho, AR.int h1, AR.int h2, wr, binOp, eqGuard, Op.intDiv, hb]
  · cases op <;> simp only [divB, Option.some.injEq, reduceCtorEq] at h <;> subst h <;> rfl
def shV (op : BinOp) (q : IntKind) (a b : Int) : Option Value := match op with
  | .shl => some (.int q (q.wrap (a * 2 ^ b.toNat)))
  | .shr => some (.int q (a / 2 ^ b.toNat))
  | _ => none
theorem tri_sh {op : BinOp} {T' : TypeId} {x y : Operand} {q q' : IntKind} {a b : Int} {v : Value} (ho : o.op = .binOp op T x y T') (hx : evo rd x = .one (.v (.int q a))) (hy : evo rd y = .one (.v (.int q' b))) (h0 : 0 ≤ b) (hb : b ≤ q.bits) (h : shV op q a b = some v) : Tri P o rd [] (.one (.v v)) [] := by
  refine tri_pure fun w0 w D ρ ac hh hex => ?_
  have h1 := hh x (by simp [ho, Op.operands])
  have h2 := hh y (by simp [ho, Op.operands])
  rw [hx] at h1; rw [hy] at h2
  refine ⟨v, ?_, ar_v ?_⟩
  · cases op <;> simp only [shV, Option.some.injEq, reduceCtorEq] at h <;> subst h
    · simp only [execOp, ho, AR.int h1, AR.int h2, eqGuard, binOp, shift_shl q q' a b h0 hb]; simp
    · simp only [execOp, ho, AR.int h1, AR.int h2, eqGuard, binOp, shift_shr q q' a b h0 hb]; simp
  · cases op <;> simp only [shV, Option.some.injEq, reduceCtorEq] at h <;> subst h <;> rfl
theorem tri_cat {T' : TypeId} {x y : Operand} {a b : ByteArray} (ho : o.op = .binOp .add T x y T') (hx : evo rd x = .one (.v (.string a))) (hy : evo rd y = .one (.v (.string b))) (h : a.size + b.size ≤ 9223372036854775807) : Tri P o rd [] (.one (.v (.string (a ++ b)))) [] := by
  refine tri_pure fun w0 w D ρ ac hh hex => ?_
  have h1 := hh x (by simp [ho, Op.operands])
  have h2 := hh y (by simp [ho, Op.operands])
  rw [hx] at h1; rw [hy] at h2
  refine ⟨_, ?_, ar_v rfl⟩
  have : ¬ (((a.size + b.size : Nat) : Int) > IntKind.i64.max) := by
    have : IntKind.i64.max = 9223372036854775807 := rfl
    omega
  simp only [execOp, ho, AR.int h1, AR.int h2, eqGuard, binOp, Op.stringOp, if_neg this]; simp
theorem tri_str {op : BinOp} {T' : TypeId} {x y : Operand} {a b : ByteArray} {v : Value} (ho : o.op = .binOp op T x y T') (hx : evo rd x = .one (.v (.string a))) (hy : evo rd y = .one (.v (.string b))) (h : strB op a b = some v) : Tri P o rd [] (.one (.v v)) [] := by
  refine tri_pure fun w0 w D ρ ac hh hex => ?_
  have h1 := hh x (by simp [ho, Op.operands])
  have h2 := hh y (by simp [ho, Op.operands])
  rw [hx] at h1; rw [hy] at h2
  refine ⟨v, ?_, ar_v ?_⟩
  · cases op <;> simp only [strB, Option.some.injEq, reduceCtorEq] at h <;> subst h <;> simp [execOp, ho, AR.int h1, AR.int h2, binOp, eqGuard, Op.stringOp, str_beq]
  · cases op <;> simp only [strB, Option.some.injEq, reduceCtorEq] at h <;> subst h <;> rfl
theorem tri_boo {op : BinOp} {T' : TypeId} {x y : Operand} {a b : Bool} {v : Value} (ho : o.op = .binOp op T x y T') (hT : P.underlying T = some .bool) (hx : evo rd x = .one (.v (.bool a))) (hy : evo rd y = .one (.v (.bool b))) (h : booB op a b = some v) : Tri P o rd [] (.one (.v v)) [] := by
  refine tri_pure fun w0 w D ρ ac hh hex => ?_
  have h1 := hh x (by simp [ho, Op.operands])
  have h2 := hh y (by simp [ho, Op.operands])
  rw [hx] at h1; rw [hy] at h2
  have hq : ∀ w : World, (Op.equal T (.bool a) (.bool b)).run P w = .ok (a == b) w := fun w => run_equalIn_bool' w _ T a b hT
  refine ⟨v, ?_, ar_v ?_⟩
  · cases op <;> simp only [booB, Option.some.injEq, reduceCtorEq] at h <;> subst h <;> simp [execOp, ho, AR.int h1, AR.int h2, binOp, eqGuard, hq, bne]
  · cases op <;> simp only [booB, Option.some.injEq, reduceCtorEq] at h <;> subst h <;> rfl
def kd : Value → Nat
  | .int .i64 _ => 0
  | .bool _ => 1
  | .string _ => 2
  | _ => 3
def ceqV : List Value → List Value → Bool
  | .int _ a :: l, .int _ b :: m => decide (a = b) && ceqV l m
  | .bool a :: l, .bool b :: m => (a == b) && ceqV l m
  | .string a :: l, .string b :: m => decide (a = b) && ceqV l m
  | _, _ => true
def EqOk (P : Program) (T : TypeId) (ks : List Nat) : Prop := P.eqGuardType P.depth T = false ∧ ∀ (w : World) (xs ys : List Value), xs.map kd = ks → ys.map kd = ks → (Op.equal T (.agg xs.toArray) (.agg ys.toArray)).run P w = .ok (ceqV xs ys) w
def eqB (op : BinOp) (xs ys : List Value) : Option Value := match op with
  | .eql => some (.bool (ceqV xs ys))
  | .neq => some (.bool (!ceqV xs ys))
  | _ => none
theorem tri_eq {op : BinOp} {T' : TypeId} {x y : Operand} {ps qs : List PV} {xs ys : List Value} {v : Value} (ho : o.op = .binOp op T x y T') (hx : evo rd x = .agg ps) (hy : evo rd y = .agg qs) (hp : plainV ps = some xs) (hq : plainV qs = some ys) (hk : xs.map kd = ys.map kd) (hE : EqOk P T (ys.map kd)) (h : eqB op xs ys = some v) : Tri P o rd [] (.one (.v v)) [] := by
  refine tri_pure fun w0 w D ρ ac hh hex => ?_
  have h1 := hh x (by simp [ho, Op.operands])
  have h2 := hh y (by simp [ho, Op.operands])
  rw [hx] at h1; rw [hy] at h2
  obtain ⟨us, e1, f1⟩ := h1
  obtain ⟨vs, e2, f2⟩ := h2
  rw [plainV_some hp] at f1
  rw [plainV_some hq] at f2
  obtain ⟨rfl, _⟩ := F2.map_v f1
  obtain ⟨rfl, _⟩ := F2.map_v f2
  have hg := hE.2 w us vs hk rfl
  have hgd : (eqGuard op T x y (.agg us.toArray) (.agg vs.toArray)).run P w = .ok () w := run_eqGuard_agg w op T x y _ _ hE.1
  refine ⟨v, ?_, ar_v ?_⟩
  · cases op <;> simp only [eqB, Option.some.injEq, reduceCtorEq] at h <;> subst h <;> simp [execOp, ho, e1, e2, binOp, hgd, hg]
  · cases op <;> simp only [eqB, Option.some.injEq, reduceCtorEq] at h <;> subst h <;> rfl
theorem tri_u32 {op : BinOp} {T' : TypeId} {x y : Operand} {a b : Int} {v : Value} (ho : o.op = .binOp op T x y T') (hx : evo rd x = .one (.v (.int .u32 a))) (hy : evo rd y = .one (.v (.int .u32 b))) (h : intU op a b = some v) : Tri P o rd [] (.one (.v v)) [] := by
  refine tri_pure fun w0 w D ρ ac hh hex => ?_
  have h1 := hh x (by simp [ho, Op.operands])
  have h2 := hh y (by simp [ho, Op.operands])
  rw [hx] at h1; rw [hy] at h2
  refine ⟨v, ?_, ar_v ?_⟩
  · have := run_intU P w h T T' x y ac.eval (AR.int h1) (AR.int h2) o.dst o.type o.pos o.after o.guard
    rw [← this]
    cases o
    simp only at ho
    subst ho
    rfl
  · cases op <;> simp only [intU, Option.some.injEq, reduceCtorEq] at h <;> subst h <;> rfl
theorem tri_inv {T : TypeId} {x : Operand} {n : Int} (ho : o.op = .unOp .xor T x) (hx : evo rd x = .one (.v (.int .u32 n))) : Tri P o rd [] (.one (.v (.int .u32 (Go.bits .xor .u32 4294967295 n)))) [] := by
  refine tri_pure fun w0 w D ρ ac hh hex => ?_
  have h1 := hh x (by simp [ho, Op.operands])
  rw [hx] at h1
  exact ⟨_, by simp [execOp, ho, AR.int h1, Op.unary, Op.intBits, Go.bits, -BitVec.toNat_and, -BitVec.toNat_or, -BitVec.toNat_xor, -BitVec.toNat_not, -BitVec.toNat_ofInt]; rfl, ar_v rfl⟩
def ptrP : PV → Option PV
  | .rp k o => some (.rp k o)
  | .ptr k i sz o => some (.ptr k i sz o)
  | .ep sz es i o => some (.ep sz es i o)
  | _ => none
theorem tri_nilc {x : Operand} {p q : PV} (ho : o.op = .nilCheck x) (hx : evo rd x = .one p) (hq : ptrP p = some q) : Tri P o rd [] (.one q) [] := by
  refine tri_pure fun w0 w D ρ ac hh hex => ?_
  have h1 := hh x (by simp [ho, Op.operands])
  rw [hx] at h1
  cases p <;> simp only [ptrP, reduceCtorEq, Option.some.injEq] at hq <;> subst hq
  · have h2 := h1
    obtain ⟨_, b, _, e⟩ := h2
    exact ⟨_, by simp [execOp, ho, e], e ▸ h1⟩
  · have h2 := h1
    obtain ⟨_, b, off, _, e⟩ := h2
    exact ⟨_, by simp [execOp, ho, e], e ▸ h1⟩
  · have h2 := h1
    obtain ⟨b, off, e, _⟩ := h2
    exact ⟨_, by simp [execOp, ho, e], e ▸ h1⟩
theorem tri_not {T : TypeId} {x : Operand} {b : Bool} (ho : o.op = .unOp .not T x) (hx : evo rd x = .one (.v (.bool b))) : Tri P o rd [] (.one (.v (.bool (!b)))) [] := by
  refine tri_pure fun w0 w D ρ ac hh hex => ?_
  have h1 := hh x (by simp [ho, Op.operands])
  rw [hx] at h1
  exact ⟨_, by simp [execOp, ho, AR.int h1, Op.unary], ar_v rfl⟩
theorem tri_conv {S : TypeId} {x : Operand} {q q' : IntKind} {i' : TyI} {n : Int} (ho : o.op = .convert S T x) (hs : TyEnv.ti P S = some i') (hi : TyEnv.ti P T = some i) (hk : i.k = .int q) (hx : evo rd x = .one (.v (.int q' n))) : Tri P o rd [] (.one (.v (.int q (q.wrap n)))) [] := by
  refine tri_pure fun w0 w D ρ ac hh hex => ?_
  have h1 := hh x (by simp [ho, Op.operands])
  rw [hx] at h1
  have hu : P.underlying T = some (.int q) := by have := ty_kind hi; rw [hk] at this; exact this
  obtain ⟨d, hd, _⟩ := ty_und hs
  refine ⟨_, ?_, ar_v rfl⟩
  simp [execOp, ho, AR.int h1, convert, run_underlying hd, run_underlying hu, Conv.intToInt]
def bytI (s : ByteArray) (n : Int) : Int := ((s.data.toList[n.toNat]?).getD 0).toNat
theorem tri_index {x y : Operand} {s : ByteArray} {n : Int} (ho : o.op = .index T x y) (hi : TyEnv.ti P T = some i) (hk : i.k = .str) (hx : evo rd x = .one (.v (.string s))) (hy : evo rd y = .one (.v (.int .i64 n))) (h0 : 0 ≤ n ∧ n < s.size) : Tri P o rd [] (.one (.v (.int .u8 (bytI s n)))) [] := by
  refine tri_pure fun w0 w D ρ ac hh hex => ?_
  have h1 := hh x (by simp [ho, Op.operands])
  have h2 := hh y (by simp [ho, Op.operands])
  rw [hx] at h1; rw [hy] at h2
  have := run_index_string (P := P) w T s .i64 n (ty_str hi hk)
  rw [dif_pos h0] at this
  refine ⟨_, ?_, ar_v rfl⟩
  have hn : n.toNat < s.data.toList.length := by rw [Array.length_toList]; show n.toNat < s.size; omega
  have e : bytI s n = (s[n.toNat]'(by omega)).toNat := by
    unfold bytI
    rw [List.getElem?_eq_getElem hn]
    rfl
  simp only [execOp, ho, AR.int h1, AR.int h2, Sem.run_bind, this, Result.andThen_ok, Sem.run_pure, e]
theorem tri_len {ty : TypeId} {x : Operand} {s : ByteArray} (ho : o.op = .call { callee := .builtin .len, args := #[x], argTypes := #[T] }) (hi : TyEnv.ti P T = some i) (hk : i.k = .str) (hx : evo rd x = .one (.v (.string s))) : Tri P o rd [] (.one (.v (.int .i64 s.size))) [] := by
  refine tri_pure fun w0 w D ρ ac hh hex => ?_
  have h1 := hh x (by simp [ho, Op.operands, Call.operands])
  rw [hx] at h1
  refine ⟨_, ?_, ar_v rfl⟩
  have := run_len_string (P := P) w T o.type s (ty_str hi hk)
  simp [execOp, ho, resolve, invoke, builtin, AR.int h1, this, goInt]
theorem tri_lenS {x : Operand} {sz : Nat} {es : List (List Value)} (ho : o.op = .call { callee := .builtin .len, args := #[x], argTypes := #[T] }) (hi : TyEnv.ti P T = some i) (hk : i.k = .slice e) (hx : evo rd x = .one (.sl sz es)) : Tri P o rd [] (.one (.v (.int .i64 es.length))) [] := by
  refine tri_pure fun w0 w D ρ ac hh hex => ?_
  have h1 := hh x (by simp [ho, Op.operands, Call.operands])
  rw [hx] at h1
  obtain ⟨A, c, h1, _⟩ := h1
  refine ⟨_, ?_, ar_v rfl⟩
  have hu := ty_slice hi hk
  have := run_len_slice (P := P) w T o.type A es.length c (by rw [elem_of hu]; exact hu)
  simp [execOp, ho, resolve, invoke, builtin, h1, this, goInt]
theorem tri_lenN {x : Operand} (ho : o.op = .call { callee := .builtin .len, args := #[x], argTypes := #[T] }) (hi : TyEnv.ti P T = some i) (hk : i.k = .slice e) (hx : evo rd x = .one .nil) : Tri P o rd [] (.one (.v (.int .i64 0))) [] := by
  refine tri_pure fun w0 w D ρ ac hh hex => ?_
  have h1 := hh x (by simp [ho, Op.operands, Call.operands])
  rw [hx] at h1
  have h1 : ac.eval x = .slice none 0 0 := h1
  refine ⟨_, ?_, ar_v rfl⟩
  have hu := ty_slice hi hk
  have := run_len_slice (P := P) w T o.type none 0 0 (by rw [elem_of hu]; exact hu)
  simp [execOp, ho, resolve, invoke, builtin, h1, this, goInt]
theorem tri_head {x : Operand} {E : TypeId} {sz : Nat} {es : List (List Value)} {v : AV} (hm : x ∈ o.op.operands.toList) (hx : evo rd x = .one (.hs j))
    (h : ∀ (w0 w : World) (D : Nat → Prop) (ρ : Nat → Value) (a : Act) (A : Option Addr) (c : Nat), (∀ y ∈ o.op.operands.toList, AR w0 D ρ (evo rd y) (a.eval y)) → D j → a.eval x = .slice A es.length c → ρ j = .slice A es.length c → (0 < es.length → ∃ b off, A = some ⟨b, off, none⟩) → ∃ u, (execOp a.eval o).run P w = .ok (.value u) w ∧ AR w0 D ρ v u) : Tri P o rd [(j, .arr E sz es)] v [] := by
  intro w0 w ρ n t H a Q hr ht hrs hfr hd
  obtain ⟨A, Js, ⟨hes, rfl⟩, h2, _⟩ := hr.focus (hrs j _ (List.mem_cons_self ..))
  have hx' := hr.ev x
  rw [evo_of hm ht, hx] at hx'
  obtain ⟨hD, hx', _⟩ := hx'
  have hsl := h2.slot .head
  obtain ⟨u, hu, hv⟩ : ∃ u, (execOp a.eval o).run P w = .ok (.value u) w ∧ AR w0 (dom H) ρ v u := by
    have hops : ∀ y ∈ o.op.operands.toList, AR w0 (dom H) ρ (evo rd y) (a.eval y) := fun y hy => by rw [← evo_of hy ht]; exact hr.ev y
    obtain ⟨_, ⟨hv, h0⟩ | ⟨b, off, cap, cur, hv, _⟩⟩ := hsl
    · exact h w0 w (dom H) ρ a none 0 hops hD (by rw [hx', hv, h0]) (by rw [hv, h0]) (fun hp => by omega)
    · exact h w0 w (dom H) ρ a _ cap hops hD (by rw [hx', hv]) hv (fun _ => ⟨b, off, rfl⟩)
  unfold Oper.wp
  rw [hu]
  exact ⟨ρ, hr.put hv hd⟩
theorem tri_lenH {x : Operand} {E : TypeId} {sz : Nat} {es : List (List Value)} (ho : o.op = .call { callee := .builtin .len, args := #[x], argTypes := #[T] }) (hi : TyEnv.ti P T = some i) (hk : i.k = .slice e) (hx : evo rd x = .one (.hs j)) : Tri P o rd [(j, .arr E sz es)] (.one (.v (.int .i64 es.length))) [] := by
  refine tri_head (by simp [ho, Op.operands, Call.operands]) hx fun w0 w D ρ a A c _ _ hx' _ _ => ?_
  have hu := ty_slice hi hk
  have := run_len_slice (P := P) w T o.type A es.length c (by rw [elem_of hu]; exact hu)
  exact ⟨_, by simp [execOp, ho, resolve, invoke, builtin, hx', this, goInt], ar_v rfl⟩
theorem size_run {ei : TyI} (he : TyEnv.ti P e = some ei) (w : World) : (sizeOf e).run P w = .ok ei.size w := by
  obtain ⟨x, hx, hs⟩ := Option.map_eq_some_iff.1 (ty_size he)
  simp [sizeOf, typeInfo, hx, hs]
theorem tri_ixH {x y : Operand} {E : TypeId} {sz : Nat} {es : List (List Value)} {ei : TyI} {n : Int} (ho : o.op = .indexAddr T x y) (hi : TyEnv.ti P T = some i) (hk : i.k = .slice e) (he : TyEnv.ti P e = some ei) (hsz : sz = ei.size) (hx : evo rd x = .one (.hs j)) (hy : evo rd y = .one (.v (.int .i64 n))) (h0 : 0 ≤ n ∧ n < es.length) : Tri P o rd [(j, .arr E sz es)] (.one (.ptr j n.toNat sz 0)) [] := by
  refine tri_head (by simp [ho, Op.operands]) hx fun w0 w D ρ a A c hh hD hx' hρ hA => ?_
  have h2 := hh y (by simp [ho, Op.operands])
  rw [hy] at h2
  obtain ⟨b, off, rfl⟩ := hA (by omega)
  have hu := ty_slice hi hk
  have := run_indexAt_slice (P := P) w T ⟨b, off, none⟩ es.length c .i64 n (by rw [elem_of hu]; exact hu)
  rw [if_pos h0, elem_of hu, size_run he] at this
  simp only [Result.andThen_ok, add_plain] at this
  exact ⟨.pointer (some ⟨b, off + n.toNat * ei.size, none⟩), by simp only [execOp, ho, hx', AR.int h2, Sem.run_bind, this, Result.andThen_ok, Sem.run_pure], hD, b, off, by rw [hρ]; rfl, by rw [hsz, Nat.add_zero]⟩
theorem tri_ixS {x y : Operand} {sz : Nat} {es : List (List Value)} {ei : TyI} {n : Int} (ho : o.op = .indexAddr T x y) (hi : TyEnv.ti P T = some i) (hk : i.k = .slice e) (he : TyEnv.ti P e = some ei) (hsz : sz = ei.size) (hx : evo rd x = .one (.sl sz es)) (hy : evo rd y = .one (.v (.int .i64 n))) (h0 : 0 ≤ n ∧ n < es.length) : Tri P o rd [] (.one (.ep sz es n.toNat 0)) [] := by
  refine tri_pure fun w0 w D ρ a hh hex => ?_
  have h1 := hh x (by simp [ho, Op.operands])
  have h2 := hh y (by simp [ho, Op.operands])
  rw [hx] at h1; rw [hy] at h2
  obtain ⟨A, c, h1, _, _, hc⟩ := h1
  have hu := ty_slice hi hk
  obtain ⟨b, off, rfl, _⟩ := hc.2 (fun h => by subst h; simp at h0; omega)
  have := run_indexAt_slice (P := P) w T ⟨b, off, none⟩ es.length c .i64 n (by rw [elem_of hu]; exact hu)
  rw [if_pos h0, elem_of hu, size_run he] at this
  simp only [Result.andThen_ok, add_plain] at this
  exact ⟨.pointer (some ⟨b, off + n.toNat * ei.size, none⟩), by simp only [execOp, ho, h1, AR.int h2, Sem.run_bind, this, Result.andThen_ok, Sem.run_pure], b, off, by rw [hsz, Nat.add_zero], hc⟩
theorem tri_min {x y : Operand} {T' : TypeId} {a b : Int} (ho : o.op = .call { callee := .builtin .min, args := #[x, y], argTypes := #[T, T'] }) (hx : evo rd x = .one (.v (.int .i64 a))) (hy : evo rd y = .one (.v (.int .i64 b))) : Tri P o rd [] (.one (.v (.int .i64 (min a b)))) [] := by
  refine tri_pure fun w0 w D ρ ac hh hex => ?_
  have h1 := hh x (by simp [ho, Op.operands, Call.operands])
  have h2 := hh y (by simp [ho, Op.operands, Call.operands])
  rw [hx] at h1; rw [hy] at h2
  refine ⟨_, ?_, ar_v rfl⟩
  have e : min a b = if b < a then b else a := by
    split <;> omega
  simp [execOp, ho, resolve, invoke, builtin, AR.int h1, AR.int h2, Builtin.min_, Builtin.min2, e]
theorem tri_extract {x : Operand} {m : Nat} {vs : List AV} {v : AV} (ho : o.op = .extract x m) (hx : evo rd x = .tup vs) (hv : vs[m]? = some v) : Tri P o rd [] v [] := by
  refine tri_pure fun w0 w D ρ ac hh hex => ?_
  have h1 := hh x (by simp [ho, Op.operands])
  rw [hx] at h1
  obtain ⟨us, e1, h1⟩ := h1
  obtain ⟨u, hu, hr⟩ := h1.get hv
  exact ⟨u, by simp [execOp, ho, e1, Instr.extract, hu], AR.of1 hr⟩
def addOff : PV → Nat → Option PV
  | .rp k o, f => some (.rp k (o + f))
  | .ptr k i sz o, f => some (.ptr k i sz (o + f))
  | .ep sz es i o, f => some (.ep sz es i (o + f))
  | _, _ => none
theorem tri_field {x : Operand} {f off fsz : Nat} {fs : List (Nat × Nat)} {p q : PV} (ho : o.op = .fieldAddr T x f) (hi : TyEnv.ti P T = some i) (hk : i.k = .struct fs) (hf : fs[f]? = some (off, fsz)) (h0 : 0 < fsz) (hx : evo rd x = .one p) (hq : addOff p off = some q) : Tri P o rd [] (.one q) [] := by
  refine tri_pure fun w0 w D ρ ac hh hex => ?_
  have h1 := hh x (by simp [ho, Op.operands])
  rw [hx] at h1
  have hkd := ty_kind hi
  rw [hk] at hkd
  obtain ⟨hu, hfs, hall⟩ := hkd
  rw [← hfs, List.getElem?_map, Option.map_eq_some_iff] at hf
  obtain ⟨fd, hfd, he⟩ := hf
  simp only [Prod.mk.injEq] at he
  obtain ⟨rfl, hsz⟩ := he
  have hin := List.all_eq_true.1 hall fd (List.mem_of_getElem? hfd)
  obtain ⟨inf, hinf⟩ := Option.isSome_iff_exists.1 hin
  rw [hinf] at hsz
  simp only [Option.map_some, Option.getD_some] at hsz
  have hfd' : (P.fieldsOf T)[f]? = some fd := by rw [← Array.getElem?_toList]; exact hfd
  have key : ∀ b g, (Instr.fieldAt T (.pointer (some ⟨b, g, none⟩)) f).run P w = .ok (.pointer (some ⟨b, g + fd.offset, none⟩)) w := by
    intro b g
    have hs : (sizeOf fd.type).run P w = .ok fsz w := by simp [sizeOf, typeInfo, hinf, hsz]
    have hne : ¬ fsz = 0 := by omega
    simp [Instr.fieldAt, Sem.run_bind, run_underlying hu, hfd', Instr.sureAddr, fieldPlace, hs, hne, add_plain]
  cases p <;> simp only [addOff, Option.some.injEq, reduceCtorEq] at hq <;> subst hq
  · obtain ⟨hD, b, hb, hx'⟩ := h1
    exact ⟨_, by simp only [execOp, ho, hx', Sem.run_bind, key, Result.andThen_ok, Sem.run_pure], hD, b, hb, rfl⟩
  · obtain ⟨hD, b, g, hb, hx'⟩ := h1
    exact ⟨.pointer (some ⟨b, _, none⟩), by simp only [execOp, ho, hx', Sem.run_bind, key, Result.andThen_ok, Sem.run_pure]; rfl, hD, b, g, hb, by rw [Nat.add_assoc]⟩
  · obtain ⟨b, g, hx', hc⟩ := h1
    exact ⟨.pointer (some ⟨b, _, none⟩), by simp only [execOp, ho, hx', Sem.run_bind, key, Result.andThen_ok, Sem.run_pure]; rfl, b, g, by rw [Nat.add_assoc], hc⟩
end
end Go.Vc
end
section
namespace Go.Vc
open Go Go.RowKit
set_option linter.unusedVariables false
set_option linter.unusedSimpArgs false
set_option linter.unnecessarySimpa false
set_option linter.unusedSectionVars false
def buildO (fs : List (Nat × Nat)) : List PV → List (Nat × AV) → Option (List PV)
  | z, [] => some z
  | z, (i, x) :: l => match fs[i]?, cellsO x with
    | some (off, sz), some cs => if cs.length = sz ∧ 0 < sz then (spl z off cs).bind fun z' => buildO fs z' l else none
    | _, _ => none
theorem fold_nic : ∀ (vs : List Value) (k off : Nat) (C : Array Value), ((vs.zipIdx k).foldl (fun (cs : Array Value) (p : Value × Nat) => cs.setIfInBounds (off + p.2) p.1) C) = nicRow C (off + k) vs
  | [], k, off, C => rfl
  | v :: vs, k, off, C => by
    simp only [List.zipIdx_cons, List.foldl_cons, nicRow]
    rw [fold_nic vs (k + 1) off]
    rfl
theorem fill_build {w0 : World} {D : Nat → Prop} {ρ : Nat → Value} {fs : List (Nat × Nat)} : ∀ {l : List (Nat × AV)} {m : List (Nat × Value)} {z cs : List PV} {zs : List Value}, F2 (fun p q => p.1 = q.1 ∧ AR w0 D ρ p.2 q.2) l m → F2 (R w0 D ρ) z zs → buildO fs z l = some cs →
    ∃ us : List Value, Instr.fill (fs.toArray[·]?) zs.toArray m = some us.toArray ∧ F2 (R w0 D ρ) cs us
  | [], _, z, cs, zs, .nil, hz, h => by simp only [buildO, Option.some.injEq] at h; subst h; exact ⟨zs, rfl, hz⟩
  | (i, x) :: l, (j, u) :: m, z, cs, zs, .cons hx hr, hz, h => by
    obtain ⟨e, hx⟩ := hx
    simp only at e hx
    subst e
    simp only [buildO] at h
    split at h
    · rename_i off sz cx h1 h2
      split at h
      · rename_i hsz
        obtain ⟨z', g1, g2⟩ := Option.bind_eq_some_iff.1 h
        have hc := cells_R hx h2
        obtain ⟨q1, q2⟩ := spl_F2 hz off hc g1
        have hne : cx ≠ [] := fun e => by subst e; simp at hsz; omega
        rw [if_neg hne, Nat.add_zero] at q2
        obtain ⟨us, r1, r2⟩ := fill_build hr q1 g2
        refine ⟨us, ?_, r2⟩
        have hus : u.cells.size = sz := by rw [← Array.length_toList, ← hc.len, hsz.1]
        have hoff : off + u.cells.toList.length ≤ zs.length := by rw [Array.length_toList, hus, ← hz.len]; omega
        have h1' : fs.toArray[i]? = some (off, sz) := by simpa using h1
        simp only [Instr.fill, h1']
        rw [if_neg (by simp only [List.size_toArray]; rw [Array.length_toList] at hoff; simp only [ne_eq, gt_iff_lt, Bool.or_eq_true, decide_eq_true_eq, not_or]; exact ⟨by simpa using hus, by omega⟩)]
        rw [← Array.foldl_toList, Array.toList_zipIdx, fold_nic, Nat.add_zero, nic_eq _ _ _ hoff]
        exact r1
      · cases h
    · cases h
section
variable {P : Program} [TyEnv P] {o : Oper} {rd : Nat → AV} {T e : TypeId} {i : TyI} {k j : Nat}
theorem tri_build {parts : Array (Nat × Operand)} {fs : List (Nat × Nat)} {cs : List PV} (ho : o.op = .build T parts) (hi : TyEnv.ti P T = some i) (hk : i.k = .struct fs) (hb : buildO fs i.zero (parts.toList.map fun p => (p.1, evo rd p.2)) = some cs) : Tri P o rd [] (.agg cs) [] := by
  refine tri_pure fun w0 w D ρ a hh hex => ?_
  have hkd := ty_kind hi
  rw [hk] at hkd
  obtain ⟨hu, hfs, hall⟩ := hkd
  obtain ⟨⟨z, z1, z2, z3, z4⟩, _⟩ := TyEnv.ok T i hi
  obtain ⟨inf, i1, i2⟩ := Option.map_eq_some_iff.1 z1
  simp only [Prod.mk.injEq] at i2
  have hF : F2 (fun p q => p.1 = q.1 ∧ AR w0 D ρ p.2 q.2) (parts.toList.map fun p => (p.1, evo rd p.2)) (parts.toList.map fun p => (p.1, a.eval p.2)) := by
    have : ∀ l : List (Nat × Operand), (∀ y ∈ l, y ∈ parts.toList) → F2 (fun p q => p.1 = q.1 ∧ AR w0 D ρ p.2 q.2) (l.map fun p => (p.1, evo rd p.2)) (l.map fun p => (p.1, a.eval p.2)) := by
      intro l
      induction l with
      | nil => intro _; exact .nil
      | cons y l ih =>
        intro hl
        refine .cons ⟨rfl, hh y.2 ?_⟩ (ih fun y hy => hl y (List.mem_cons_of_mem _ hy))
        rw [ho]
        simp only [Op.operands]
        exact List.mem_map_of_mem (f := (·.2)) (hl y (List.mem_cons_self ..))
    exact this _ fun _ h => h
  obtain ⟨us, f1, f2⟩ := fill_build hF (ty_zeros hi) hb
  have hplaces : (P.fieldsOf T).toList.mapM (fun f => (P.info? f.type).map fun i => (f.offset, i.size)) = some fs := by
    rw [← hfs]
    clear hfs hu f1 hk
    generalize (P.fieldsOf T).toList = l at hall
    induction l with
    | nil => rfl
    | cons f l ih =>
      simp only [List.all_cons, Bool.and_eq_true] at hall
      obtain ⟨inf, hinf⟩ := Option.isSome_iff_exists.1 hall.1
      simp [List.mapM_cons, hinf, ih hall.2]
  have hbt : P.built T (parts.toList.map fun p => (p.1, a.eval p.2)) = some us.toArray := by
    unfold Program.built
    rw [i1, hu]
    simp only [i2.1, hplaces]
    have e1 : z.cells = (i.zero.map pvv).toArray := by rw [← z2]
    rw [e1]
    exact f1
  have hr := run_build (P := P) w T (parts.map fun (i, x) => (i, a.eval x)) us.toArray (by rw [Array.toList_map]; exact hbt)
  refine ⟨.agg us.toArray, ?_, us, rfl, f2⟩
  unfold execOp
  simp only [ho, Sem.run_bind, hr, Result.andThen_ok, Sem.run_pure]
def loI (rd : Nat → AV) : Option Operand → Option Int
  | none => some 0
  | some x => asI (evo rd x)
def hiI (rd : Nat → AV) (n : Int) : Option Operand → Option Int
  | none => some n
  | some x => asI (evo rd x)
theorem asI_some {x : AV} {n : Int} (h : asI x = some n) : x = .one (.v (.int .i64 n)) := by
  unfold asI at h
  split at h
  · simp only [Option.some.injEq] at h; subst h; rfl
  · cases h
theorem tri_subS {x : Operand} {lo hi : Option Operand} {s : ByteArray} {l m : Int} (ho : o.op = .slice T x lo hi none) (hi' : TyEnv.ti P T = some i) (hk : i.k = .str) (hx : evo rd x = .one (.v (.string s))) (hl : loI rd lo = some l) (hm : hiI rd s.size hi = some m) (h0 : 0 ≤ l ∧ l ≤ m ∧ m ≤ s.size) :
    Tri P o rd [] (.one (.v (.string (s.extract l.toNat m.toNat)))) [] := by
  refine tri_pure fun w0 w D ρ a hh hex => ?_
  have h1 := hh x (by simp [ho, Op.operands])
  rw [hx] at h1
  have hu := ty_str hi' hk
  obtain ⟨b0, b1, b2⟩ := h0
  refine ⟨_, ?_, ar_v rfl⟩
  unfold execOp
  simp only [ho, AR.int h1, Sem.run_bind, run_sliceAt_string w T _ _ _ _ hu]
  cases lo with
  | none =>
    simp only [loI, Option.some.injEq] at hl; subst hl
    cases hi with
    | none =>
      simp only [hiI, Option.some.injEq] at hm; subst hm
      simp only [Option.map_none, run_slice_string_all (P := P) w T s hu, Result.andThen_ok, Sem.run_pure]
      rfl
    | some y =>
      have h2 := hh y (by simp [ho, Op.operands])
      rw [asI_some hm] at h2
      simp only [Option.map_none, Option.map_some, AR.int h2, run_slice_string_h (P := P) w T s hu .i64 m (by omega) b2, Result.andThen_ok, Sem.run_pure]
      rfl
  | some z =>
    have h3 := hh z (by simp [ho, Op.operands])
    rw [asI_some hl] at h3
    cases hi with
    | none =>
      simp only [hiI, Option.some.injEq] at hm; subst hm
      simp only [Option.map_none, Option.map_some, AR.int h3, run_slice_string_l (P := P) w T s hu .i64 l b0 b1, Result.andThen_ok, Sem.run_pure]
      rfl
    | some y =>
      have h2 := hh y (by simp [ho, Op.operands])
      rw [asI_some hm] at h2
      simp only [Option.map_none, Option.map_some, AR.int h2, AR.int h3, run_slice_string_if (P := P) w T s .i64 .i64 l m hu, if_pos (show 0 ≤ m ∧ m ≤ (s.size : Int) from ⟨by omega, b2⟩), if_pos (show 0 ≤ l ∧ l ≤ m from ⟨b0, b1⟩), Result.andThen_ok, Sem.run_pure]
def okE (es : List (List Value)) : Prop := ∃ s : ByteArray, es = bytesE s
def ofE (es : List (List Value)) : ByteArray := ⟨(es.map fun e => match e with | [.int _ n] => UInt8.ofNat n.toNat | _ => 0).toArray⟩
theorem ofE_bytesE (s : ByteArray) : ofE (bytesE s) = s := by
  unfold ofE bytesE
  rw [List.map_map]
  have : ((fun e : List Value => match e with | [.int _ n] => UInt8.ofNat n.toNat | _ => 0) ∘ fun b : UInt8 => [Value.int IntKind.u8 (b.toNat : Int)]) = id := by
    funext b
    simp
  rw [this]
  simp
theorem tri_back {S : TypeId} {x : Operand} {E : TypeId} {es : List (List Value)} {i' ei : TyI} (ho : o.op = .convert S T x) (hs : TyEnv.ti P S = some i') (hsk : i'.k = .slice e) (he : TyEnv.ti P e = some ei) (hek : ei.k = .int .u8) (hi : TyEnv.ti P T = some i) (hk : i.k = .str) (hx : evo rd x = .one (.hs j)) (hok : okE es) : Tri P o rd [(j, .arr E 1 es)] (.one (.v (.string (ofE es)))) [] := by
  intro w0 w ρ n t H a Q hr ht hrs hfr hd
  obtain ⟨A, Js, ⟨hes, rfl⟩, h2, _⟩ := hr.focus (hrs j _ (List.mem_cons_self ..))
  have hx' := hr.ev x
  rw [evo_of (o := o) (by simp [ho, Op.operands]) ht, hx] at hx'
  obtain ⟨s, rfl⟩ := hok
  have hu8 : P.underlying e = some (.int .u8) := by have := ty_kind he; rw [hek] at this; exact this
  rw [bytesE_flat] at h2
  rw [ofE_bytesE]
  exact wp_backS_st S T x ho e (ty_slice hs hsk) hu8 (ty_str hi hk) hx'.2.1 h2 .head ⟨ρ, hr.put (ar_v rfl) hd⟩
end
def AB (w : World) (x : AV) (u : Value) : Prop := AR w (fun _ => False) (fun _ => undef) x u
def cleanP : PV → Bool
  | .v _ | .nil | .hs _ | .junk => true
  | _ => false
def clean1 : AV → Bool
  | .one p => cleanP p
  | .agg ps => ps.all cleanP
  | .tup _ => false
  | .junk => true
def cleanA : AV → Bool
  | .tup vs => vs.all clean1
  | x => clean1 x
def arrs (H : Hp) : Bool := H.all fun p => match p.2 with
  | .arr .. => true
  | .own _ => true
  | _ => false
def Con (P : Program) (f : FuncId) (args : List AV) (res : Nat → AV) (Hr : Nat → Hp) : Prop :=
  (∃ fn, P.funcs[f]? = some fn ∧ (fn.name == "runtime.NumGoroutine") = false ∧ fn.body.isNone = false) ∧
  ∀ (w : World) (vs : List Value), F2 (AB w) args vs → ∀ b : Nat, Calls P f vs.toArray w fun e w' => ∃ u ρ, e = .returned u ∧ AR w (dom (Hr b)) ρ (res b) u ∧ cleanA (res b) = true ∧ arrs (Hr b) = true ∧ ((Hr b).map (·.1)).Nodup ∧ ∃ As, F2 (BR w (dom (Hr b)) ρ) (Hr b) As ∧ St w w' As
theorem R.clean {w0 w : World} {D : Nat → Prop} {ρ : Nat → Value} {p : PV} {u : Value} (h : R w D ρ p u) (hc : cleanP p = true) : R w0 D ρ p u := by
  cases p <;> first | exact h | (simp [cleanP] at hc)
theorem F2.clean {w0 w : World} {D : Nat → Prop} {ρ : Nat → Value} : ∀ {ps : List PV} {us : List Value}, F2 (R w D ρ) ps us → ps.all cleanP = true → F2 (R w0 D ρ) ps us
  | [], _, .nil, _ => .nil
  | p :: ps, _, .cons h k, hc => by
    simp only [List.all_cons, Bool.and_eq_true] at hc
    exact .cons (h.clean hc.1) (F2.clean k hc.2)
theorem AR1.clean {w0 w : World} {D : Nat → Prop} {ρ : Nat → Value} {p : AV} {u : Value} (h : AR1 w D ρ p u) (hc : clean1 p = true) : AR1 w0 D ρ p u := by
  cases p with
  | one p => exact R.clean h hc
  | agg ps => obtain ⟨us, h1, h2⟩ := h; exact ⟨us, h1, h2.clean hc⟩
  | tup vs => exact h
  | junk => trivial
theorem AR.clean {w0 w : World} {D : Nat → Prop} {ρ : Nat → Value} {p : AV} {u : Value} (h : AR w D ρ p u) (hc : cleanA p = true) : AR w0 D ρ p u := by
  cases p with
  | tup vs =>
    obtain ⟨us, h1, h2⟩ := h
    refine ⟨us, h1, ?_⟩
    replace hc : vs.all clean1 = true := hc
    clear h1
    induction h2 with
    | nil => exact .nil
    | cons h k ih =>
      simp only [List.all_cons, Bool.and_eq_true] at hc
      exact .cons (AR1.clean h hc.1) (ih hc.2)
  | one p => exact AR1.clean (p := .one p) h hc
  | agg p => exact AR1.clean (p := .agg p) h hc
  | junk => trivial
def frz (H : Hp) : PV → Option PV
  | .hs k => match lk H k with
    | some (.arr _ sz es) => some (.sl sz es)
    | some (.own X) => some (.rd X.Q)
    | _ => none
  | .rd Q => some (.rd Q)
  | .v x => some (.v x)
  | .nil => some .nil
  | .sl sz es => some (.sl sz es)
  | _ => none
def frzL (H : Hp) : List PV → Option (List PV)
  | [] => some []
  | p :: l => match frz H p with
    | some q => (frzL H l).map (q :: ·)
    | none => none
def frzA (H : Hp) : AV → Option AV
  | .one p => (frz H p).map .one
  | .agg ps => (frzL H ps).map .agg
  | _ => none
def frzAs (H : Hp) : List AV → Option (List AV)
  | [] => some []
  | p :: l => match frzA H p with
    | some q => (frzAs H l).map (q :: ·)
    | none => none
def hsP : PV → List Nat
  | .hs k => [k]
  | _ => []
def hsA : AV → List Nat
  | .one p => hsP p
  | .agg ps => ps.flatMap hsP
  | _ => []
def rsOf (H : Hp) (ks : List Nat) : Hp := ks.flatMap fun k => match lk H k with
  | some b => [(k, b)]
  | none => []
section
variable {P : Program} [TyEnv P] {o : Oper} {rd : Nat → AV} {k : Nat}
theorem frz_rb {w0 w : World} {ρ : Nat → Value} {n : Nat} {t : Tm} {H G : Hp} {a : Act} (hr : Rel w0 w ρ n t H a) {p q : PV} {u : Value} (hu : R w0 (dom H) ρ p u) (hq : frz G p = some q) (hG : ∀ k b, k ∈ hsP p → lk G k = some b → lk H k = some b) : R w (fun _ => False) (fun _ => undef) q u := by
  obtain ⟨As, h2, _⟩ := hr.parts
  cases p <;> simp only [frz, Option.some.injEq, reduceCtorEq] at hq
  · subst hq; exact hu
  · subst hq; exact hu
  · subst hq
    exact RB.ex (p := .sl _ _) hu h2.ex
  · rename_i k
    split at hq
    · rename_i E sz es hk
      simp only [Option.some.injEq] at hq
      subst hq
      obtain ⟨A, Js, ⟨hes, rfl⟩, h2, _⟩ := hr.focus (hG k _ (by simp [hsP]) hk)
      obtain ⟨_, hu, _⟩ := hu
      have hsl := h2.slot .head
      subst hu
      obtain ⟨hl, ⟨hv, h0⟩ | ⟨b, off, cap, cur, hv, _, hb, c1, c2, c3, c4⟩⟩ := hsl
      · have : es = [] := List.eq_nil_of_length_eq_zero h0
        subst this
        exact ⟨none, 0, by rw [hv]; rfl, Nat.le_refl _, Nat.zero_le _, hes, fun h => (h rfl).elim⟩
      · refine ⟨some ⟨b, off, none⟩, cap, hv, c1, c2, hes, fun _ => ⟨b, off, rfl, fun i e he j hj => ?_⟩⟩
        have hi := (List.getElem?_eq_some_iff.1 he).1
        have := Nat.mul_le_mul_right sz (show i + 1 ≤ es.length from hi)
        rw [Nat.succ_mul] at this
        rw [cell_row hb, Nat.add_assoc, c4 (i * sz + j) (by omega), flat_at hes he hj]
    · rename_i X hk
      simp only [Option.some.injEq] at hq
      subst hq
      obtain ⟨A, Js, hA, h2, _⟩ := hr.focus (hG k _ (by simp [hsP]) hk)
      obtain ⟨_, hu, _⟩ := hu
      have hA' : A = X.A (ρ k) := hA
      subst hA' hu
      obtain ⟨F, hF⟩ := h2.head
      exact X.rd hF
    · cases hq
  · subst hq
    exact RB.ex (p := .rd _) hu h2.ex
theorem frzL_rb {w0 w : World} {ρ : Nat → Value} {n : Nat} {t : Tm} {H G : Hp} {a : Act} (hr : Rel w0 w ρ n t H a) : ∀ {xs ys : List PV} {us : List Value}, F2 (R w0 (dom H) ρ) xs us → frzL G xs = some ys → (∀ k b, k ∈ xs.flatMap hsP → lk G k = some b → lk H k = some b) → F2 (R w (fun _ => False) (fun _ => undef)) ys us
  | [], ys, _, .nil, h, _ => by simp only [frzL, Option.some.injEq] at h; subst h; exact .nil
  | x :: xs, ys, _, .cons hx hr', h, hG => by
    simp only [frzL] at h
    split at h
    · rename_i q hq
      obtain ⟨m, hm, rfl⟩ := Option.map_eq_some_iff.1 h
      exact .cons (frz_rb hr hx hq fun k b hk => hG k b (by simp only [List.flatMap_cons, List.mem_append]; exact .inl hk)) (frzL_rb hr hr' hm fun k b hk => hG k b (by simp only [List.flatMap_cons, List.mem_append]; exact .inr hk))
    · cases h
theorem frzA_rb {w0 w : World} {ρ : Nat → Value} {n : Nat} {t : Tm} {H G : Hp} {a : Act} (hr : Rel w0 w ρ n t H a) {p q : AV} {u : Value} (hu : AR w0 (dom H) ρ p u) (hq : frzA G p = some q) (hG : ∀ k b, k ∈ hsA p → lk G k = some b → lk H k = some b) : AB w q u := by
  cases p with
  | one p =>
    obtain ⟨q', h1, rfl⟩ := Option.map_eq_some_iff.1 hq
    exact frz_rb hr hu h1 hG
  | agg ps =>
    obtain ⟨qs, h1, rfl⟩ := Option.map_eq_some_iff.1 hq
    obtain ⟨us, rfl, h2⟩ := hu
    exact ⟨us, rfl, frzL_rb hr h2 h1 hG⟩
  | tup vs => simp [frzA] at hq
  | junk => simp [frzA] at hq
theorem frzAs_rb {w0 w : World} {ρ : Nat → Value} {n : Nat} {t : Tm} {H G : Hp} {a : Act} (hr : Rel w0 w ρ n t H a) : ∀ {xs ys : List AV} {us : List Value}, F2 (AR w0 (dom H) ρ) xs us → frzAs G xs = some ys → (∀ k b, k ∈ xs.flatMap hsA → lk G k = some b → lk H k = some b) → F2 (AB w) ys us
  | [], ys, _, .nil, h, _ => by simp only [frzAs, Option.some.injEq] at h; subst h; exact .nil
  | x :: xs, ys, _, .cons hx hr', h, hG => by
    simp only [frzAs] at h
    split at h
    · rename_i q hq
      obtain ⟨m, hm, rfl⟩ := Option.map_eq_some_iff.1 h
      exact .cons (frzA_rb hr hx hq fun k b hk => hG k b (by simp only [List.flatMap_cons, List.mem_append]; exact .inl hk)) (frzAs_rb hr hr' hm fun k b hk => hG k b (by simp only [List.flatMap_cons, List.mem_append]; exact .inr hk))
    · cases h
theorem rsOf_mem {G : Hp} {ks : List Nat} {k : Nat} {b : Blk} : (k, b) ∈ rsOf G ks ↔ k ∈ ks ∧ lk G k = some b := by
  unfold rsOf
  rw [List.mem_flatMap]
  constructor
  · rintro ⟨j, hj, h⟩
    split at h
    · rename_i b' hb'
      simp only [List.mem_singleton, Prod.mk.injEq] at h
      obtain ⟨rfl, rfl⟩ := h
      exact ⟨hj, hb'⟩
    · cases h
  · rintro ⟨h1, h2⟩
    exact ⟨k, h1, by rw [h2]; simp⟩
theorem Rel.adds {w0 w w' : World} {ρ ρ' : Nat → Value} {n : Nat} {t : Tm} {H : Hp} {a : Act} (hr : Rel w0 w ρ n t H a) {δ : Hp} (hf : ∀ k b, (k, b) ∈ δ → lk H k = none) (ha : arrs δ = true) (hn : (δ.map (·.1)).Nodup) {As : List Asn} (h1 : F2 (BR w (dom δ) ρ') δ As) (h2 : St w w' As) :
    ∃ ρ2, Rel w0 w' ρ2 n t (updH H δ) a ∧ (∀ k, dom δ k → dom (updH H δ) k ∧ ρ2 k = ρ' k) := by
  obtain ⟨Bs, g1, g2⟩ := hr.hp
  let ρ2 : Nat → Value := fun k => if k ∈ δ.map (·.1) then ρ' k else ρ k
  have key : ∀ (δ : Hp) (H : Hp), (∀ k b, (k, b) ∈ δ → lk H k = none) → (δ.map (·.1)).Nodup → updH H δ = H ++ δ := by
    intro δ
    induction δ with
    | nil => intro H _ _; simp [updH]
    | cons x δ ih =>
      intro H hf hn
      obtain ⟨k, b⟩ := x
      simp only [List.map_cons, List.nodup_cons] at hn
      simp only [updH]
      rw [upd1_new b (hf k b (List.mem_cons_self ..)), ih _ (fun k' b' hb' => ?_) hn.2]
      · simp
      · have h0 := hf k' b' (List.mem_cons_of_mem _ hb')
        rw [← upd1_new b (hf k b (List.mem_cons_self ..)), lk_upd1, if_neg]
        · exact h0
        · rintro rfl; exact hn.1 (List.mem_map_of_mem (f := (·.1)) hb')
  have e := key δ H hf hn
  have hnot : ∀ k, dom H k → k ∉ δ.map (·.1) := fun k hk hm => by
    obtain ⟨⟨k', b⟩, hb, rfl⟩ := List.mem_map.1 hm
    exact lk_nd (hf _ _ hb) hk
  have hD1 : ∀ k, dom H k → dom (updH H δ) k ∧ ρ2 k = ρ k := fun k hk => ⟨by rw [dom_mem, e, List.map_append]; exact List.mem_append_left _ (dom_mem.1 hk), if_neg (hnot k hk)⟩
  have hD2 : ∀ k, dom δ k → dom (updH H δ) k ∧ ρ2 k = ρ' k := fun k hk => ⟨by rw [dom_mem, e, List.map_append]; exact List.mem_append_right _ (dom_mem.1 hk), if_pos (dom_mem.1 hk)⟩
  refine ⟨ρ2, ⟨hr.sz, hr.df, fun k => (hr.tm k).ext hD1, ⟨Bs ++ As, ?_, ?_⟩, ?_⟩, hD2⟩
  · have a1 : F2 (BR w0 (dom (updH H δ)) ρ2) H Bs := g1.mono fun x _ hx q => BR.ext hD1 (dom_mem.2 (List.mem_map_of_mem hx)) q
    have a2 : F2 (BR w0 (dom (updH H δ)) ρ2) δ As := by
      refine h1.mono fun x A hx q => ?_
      have hax := List.all_eq_true.1 ha x hx
      obtain ⟨k, b⟩ := x
      cases b with
      | arr E sz es => exact ⟨q.1, by rw [(hD2 k (dom_mem.2 (List.mem_map_of_mem (f := (·.1)) hx))).2]; exact q.2⟩
      | own X => show A = X.A (ρ2 k); rw [(hD2 k (dom_mem.2 (List.mem_map_of_mem (f := (·.1)) hx))).2]; exact q
      | row T cs => simp at hax
      | byt s => simp at hax
      | dead => simp at hax
    have a3 := F2.app a1 a2
    rw [e] at a3 ⊢
    exact a3
  · obtain ⟨q1, F, q2, q3⟩ := h2
    obtain ⟨p1, G, p2, p3⟩ := g2
    have hp' := p2.stable fun b hb => q1.block (p2.lt b hb)
    refine ⟨p1.trans q1, fun b => G b ∨ F b, ?_, fun b hb => hb.elim (p3 b) fun h => Nat.le_trans p1.size (q3 b h)⟩
    have comb : ∀ (Bs : List Asn) (G : Nat → Prop), SepL w' Bs G → (∀ b, G b → b < w.heap.size) → SepL w' (Bs ++ As) (fun b => G b ∨ F b) := by
      intro Bs
      induction Bs with
      | nil =>
        intro G hG _
        have : (fun b => G b ∨ F b) = F := by funext b; exact propext ⟨fun h => h.elim (fun h => (hG b h).elim) id, .inr⟩
        rw [this]; exact q2
      | cons B Bs ih =>
        rintro G ⟨G1, G2, c1, c2, c3, c4⟩ hlt
        refine ⟨G1, fun b => G2 b ∨ F b, c1, ih G2 c2 (fun b hb => hlt b ((c4 b).2 (.inr hb))), fun b hb hg => ?_, fun b => ?_⟩
        · rcases hg with hg | hg
          · exact c3 b hb hg
          · have := hlt b ((c4 b).2 (.inl hb)); have := q3 b hg; omega
        · show (G b ∨ F b) ↔ (G1 b ∨ (G2 b ∨ F b))
          rw [c4]
          constructor
          · rintro ((h | h) | h)
            · exact .inl h
            · exact .inr (.inl h)
            · exact .inr (.inr h)
          · rintro (h | h | h)
            · exact .inl (.inl h)
            · exact .inl (.inr h)
            · exact .inr h
    exact comb Bs G hp' fun b hb => p2.lt b hb
  · rw [e, List.map_append, List.nodup_append]
    exact ⟨hr.nd, hn, fun a ha b hb e => hnot a (dom_mem.2 ha) (e ▸ hb)⟩
theorem tri_call {f : FuncId} {args : Array Operand} {ats : Array TypeId} {G : Hp} {ys : List AV} {res : Nat → AV} {Hr : Nat → Hp} (ho : o.op = .call { callee := .value (.func f), args := args, argTypes := ats }) (hf : frzAs G (args.toList.map (evo rd)) = some ys) (hc : Con P f ys res Hr)
    (hfr : ∀ b, (Hr k).all (fun p => !(((args.toList.map (evo rd)).flatMap hsA).contains p.1)) = b → b = true) : Tri P o rd (rsOf G ((args.toList.map (evo rd)).flatMap hsA)) (res k) (Hr k) := by
  intro w0 w ρ n t H a Q hr ht hrs hfs hd
  have hF : F2 (AR w0 (dom H) ρ) (args.toList.map (evo rd)) (args.toList.map a.eval) := by
    have : ∀ l : List Operand, (∀ y ∈ l, y ∈ args.toList) → F2 (AR w0 (dom H) ρ) (l.map (evo rd)) (l.map a.eval) := by
      intro l
      induction l with
      | nil => intro _; exact .nil
      | cons y l ih =>
        intro hl
        refine .cons ?_ (ih fun y hy => hl y (List.mem_cons_of_mem _ hy))
        have := hr.ev y
        rw [evo_of (o := o) (by rw [ho]; simp only [Op.operands, Call.operands, Array.toList_append, List.mem_append]; exact .inr (hl y (List.mem_cons_self ..))) ht] at this
        exact this
    exact this _ fun _ h => h
  have hA := frzAs_rb hr hF hf fun k b hk hb => hrs k b (rsOf_mem.2 ⟨hk, hb⟩)
  obtain ⟨⟨fn, hfn, hname, hbody⟩, hcall⟩ := hc
  have hcl := hcall w _ hA k
  have hev : a.eval (.func f) = .func (.func f) #[] #[] := rfl
  have hn' : ¬ fn.name = "runtime.NumGoroutine" := by simpa using hname
  have hb' : ¬ fn.body = none := by intro e; simp [e] at hbody
  have hrun : (execOp a.eval o).run P w = .ok (.enter f (args.map a.eval)) w := by
    simp [execOp, ho, resolve, hev, Deferred.ofValue, invoke, callFunc, hfn, hn', hb']
  unfold Oper.wp
  rw [hrun, Oper.upon_enter]
  have e2 : args.map a.eval = (args.toList.map a.eval).toArray := by rw [← Array.toList_map]
  rw [e2]
  refine hcl.mono fun e w' hh => ?_
  obtain ⟨u, ρ', rfl, h1, h2, h3, h4, As, h5, h6⟩ := hh
  have hnew : ∀ j b, (j, b) ∈ Hr k → lk H j = none := fun j b hb => (hfs j b hb).resolve_left (by
    rintro ⟨b', hb'⟩
    have := hfr _ rfl
    have hx := List.all_eq_true.1 this _ hb
    have hm := (rsOf_mem.1 hb').1
    rw [Bool.not_eq_true', ← Bool.not_eq_true, List.contains_iff_mem] at hx
    exact hx hm)
  obtain ⟨ρ2, g1, g2⟩ := Rel.adds hr hnew h3 h4 h5 h6
  exact ⟨ρ2, g1.put ((h1.clean h2).ext g2) hd⟩
end
end Go.Vc
end
section
namespace Go.Vc
open Go Go.RowKit
set_option linter.unusedVariables false
set_option linter.unusedSimpArgs false
set_option linter.unnecessarySimpa false
set_option linter.unusedSectionVars false
section
variable {P : Program} [TyEnv P] {o : Oper} {rd : Nat → AV} {T S e : TypeId} {i i' : TyI} {k : Nat} {s : ByteArray}
theorem tri_bytes {x : Operand} {ei : TyI} (ho : o.op = .convert S T x) (hs : TyEnv.ti P S = some i') (hsk : i'.k = .str) (hi : TyEnv.ti P T = some i) (hk : i.k = .slice e) (he : TyEnv.ti P e = some ei) (hek : ei.k = .int .u8) (hx : evo rd x = .one (.v (.string s))) : Tri P o rd [] (.one (.hs k)) [(k, .byt s)] := by
  intro w0 w ρ n t H a Q hr ht hrs hfr hd
  have hk' : lk H k = none := (hfr k _ (List.mem_cons_self ..)).resolve_left (by rintro ⟨_, h⟩; cases h)
  obtain ⟨As, h2, h3⟩ := hr.parts
  have hx' := hr.ev x
  rw [evo_of (o := o) (by simp [ho, Op.operands]) ht, hx] at hx'
  have hx' : a.eval x = .string s := hx'.1
  have hu8 : P.underlying e = some (.int .u8) := by have := ty_kind he; rw [hek] at this; exact this
  refine wp_bytes_st T S x ho e (ty_str hs hsk) (ty_slice hi hk) hu8 hx' h2 fun w' b C hb hC hS => ?_
  have g := h3 w' k (.byt s) (.slice (some ⟨b, 0, none⟩) s.size C) _ hk' ⟨b, C, upρ_self .., hC, rfl⟩ hS
  exact ⟨_, g.put ⟨dom_upd1.2 (.inl rfl), (upρ_self ..).symm, rfl⟩ hd⟩
theorem tri_hv {x y : Operand} {ei : TyI} {n : Int} (ho : o.op = .slice T x (some y) none none) (hi : TyEnv.ti P T = some i) (hk : i.k = .slice e) (he : TyEnv.ti P e = some ei) (h1 : ei.size = 1) (hx : evo rd x = .one (.hs k)) (hy : evo rd y = .one (.v (.int .i64 n))) (h0 : 0 ≤ n ∧ n < s.size) : Tri P o rd [(k, .byt s)] (.one (.hv k n.toNat)) [] := by
  intro w0 w ρ m t H a Q hr ht hrs hfr hd
  obtain ⟨A, Js, ⟨b, C, e1, e2, rfl⟩, h2, _⟩ := hr.focus (hrs k _ (List.mem_cons_self ..))
  have hx' := hr.ev x
  rw [evo_of (o := o) (by simp [ho, Op.operands]) ht, hx] at hx'
  have hy' := hr.ev y
  rw [evo_of (o := o) (by simp [ho, Op.operands]) ht, hy] at hy'
  have hy' : a.eval y = .int .i64 (n.toNat : Int) := by rw [show (n.toNat : Int) = n by omega]; exact hy'.1
  obtain ⟨hD, hx', _⟩ := hx'
  rw [e1] at hx'
  obtain ⟨z, hz, _⟩ := ty_info he
  have := pure_cutLoA T x y ho e (ty_slice hi hk) hz hx' hy' (by omega) (by omega)
  rw [h1, Nat.mul_one, Nat.zero_add] at this
  exact wp_pure this ⟨ρ, hr.put ⟨hD, b, s.size, C, e1, rfl⟩ hd⟩
theorem cel_cut {w : World} {A : Option Addr} {sz cap l : Nat} {es : List (List Value)} (h : Cel w A sz es) (hc : es.length ≤ cap) : Cel w (cutA A l cap sz) sz (es.drop l) := by
  refine ⟨fun e he => h.1 e (List.mem_of_mem_drop he), fun hne => ?_⟩
  have hlt : l < es.length := by
    rcases Nat.lt_or_ge l es.length with g | g
    · exact g
    · exact (hne (List.drop_eq_nil_of_le g)).elim
  obtain ⟨b, off, rfl, h2⟩ := h.2 (fun e => by subst e; simp at hlt)
  unfold cutA
  rw [if_neg (by omega)]
  refine ⟨b, off + l * sz, by rw [Option.map_some, addr_add], fun i e he j hj => ?_⟩
  rw [List.getElem?_drop] at he
  have := h2 (l + i) e he j hj
  rw [show off + l * sz + i * sz + j = off + (l + i) * sz + j by rw [Nat.add_mul]; omega]
  exact this
theorem cel_take {w : World} {A : Option Addr} {sz m : Nat} {es : List (List Value)} (h : Cel w A sz es) : Cel w A sz (es.take m) := by
  refine ⟨fun e he => h.1 e (List.mem_of_mem_take he), fun hne => ?_⟩
  obtain ⟨b, off, rfl, h2⟩ := h.2 (fun e => by subst e; simp at hne)
  refine ⟨b, off, rfl, fun i e he j hj => h2 i e ?_ j hj⟩
  rw [List.getElem?_take] at he
  split at he
  · exact he
  · cases he
theorem tri_cutLo {x y : Operand} {ei : TyI} {n : Int} {es : List (List Value)} (ho : o.op = .slice T x (some y) none none) (hi : TyEnv.ti P T = some i) (hk : i.k = .slice e) (he : TyEnv.ti P e = some ei) (hx : evo rd x = .one (.sl ei.size es)) (hy : evo rd y = .one (.v (.int .i64 n))) (h0 : 0 ≤ n ∧ n ≤ es.length) : Tri P o rd [] (.one (.sl ei.size (es.drop n.toNat))) [] := by
  refine tri_pure fun w0 w D ρ ac hh hex => ?_
  have h1 := hh x (by simp [ho, Op.operands])
  have h2 := hh y (by simp [ho, Op.operands])
  rw [hx] at h1; rw [hy] at h2
  obtain ⟨A, cap, e1, q1, q2, q3⟩ := h1
  have hy' : ac.eval y = .int .i64 (n.toNat : Int) := by rw [show (n.toNat : Int) = n by omega]; exact h2.1
  obtain ⟨z, hz, _⟩ := ty_info he
  refine ⟨_, pure_cutLo T x y ho e (ty_slice hi hk) hz e1 hy' (by omega) w, ⟨cutA A n.toNat cap ei.size, cap - n.toNat, ?_, ?_, by omega, cel_cut q3 q1⟩⟩
  · rw [List.length_drop]
  · rw [List.length_drop]; omega
theorem tri_cutHi {x y : Operand} {ei : TyI} {n : Int} {es : List (List Value)} (ho : o.op = .slice T x none (some y) none) (hi : TyEnv.ti P T = some i) (hk : i.k = .slice e) (he : TyEnv.ti P e = some ei) (hx : evo rd x = .one (.sl ei.size es)) (hy : evo rd y = .one (.v (.int .i64 n))) (h0 : 0 ≤ n ∧ n ≤ es.length) : Tri P o rd [] (.one (.sl ei.size (es.take n.toNat))) [] := by
  refine tri_pure fun w0 w D ρ ac hh hex => ?_
  have h1 := hh x (by simp [ho, Op.operands])
  have h2 := hh y (by simp [ho, Op.operands])
  rw [hx] at h1; rw [hy] at h2
  obtain ⟨A, cap, e1, q1, q2, q3⟩ := h1
  have hy' : ac.eval y = .int .i64 (n.toNat : Int) := by rw [show (n.toNat : Int) = n by omega]; exact h2.1
  obtain ⟨z, hz, _⟩ := ty_info he
  have q4 : Cel w0 (cutA A 0 cap ei.size) ei.size (es.take n.toNat) := by
    have := cel_cut (l := 0) q3 q1
    rw [List.drop_zero] at this
    exact cel_take this
  refine ⟨_, pure_cutHi T x y ho e (ty_slice hi hk) hz e1 hy' (by omega) w, ⟨cutA A 0 cap ei.size, cap - 0, ?_, ?_, by omega, q4⟩⟩
  · rw [List.length_take, Nat.min_eq_left (by omega)]; rfl
  · rw [List.length_take]; omega
theorem tri_hc {x y : Operand} {ei : TyI} {n : Int} {E : TypeId} {es : List (List Value)} (ho : o.op = .slice T x (some y) none none) (hi : TyEnv.ti P T = some i) (hk : i.k = .slice e) (he : TyEnv.ti P e = some ei) (hx : evo rd x = .one (.hs k)) (hy : evo rd y = .one (.v (.int .i64 n))) (h0 : 0 ≤ n ∧ n ≤ es.length) : Tri P o rd [(k, .arr E ei.size es)] (.one (.hc k n.toNat ei.size)) [] := by
  intro w0 w ρ m t H a Q hr ht hrs hfr hd
  obtain ⟨A, Js, ⟨hok, rfl⟩, h2, _⟩ := hr.focus (hrs k _ (List.mem_cons_self ..))
  have hx' := hr.ev x
  rw [evo_of (o := o) (by simp [ho, Op.operands]) ht, hx] at hx'
  have hy' := hr.ev y
  rw [evo_of (o := o) (by simp [ho, Op.operands]) ht, hy] at hy'
  have hy' : a.eval y = .int .i64 (n.toNat : Int) := by rw [show (n.toNat : Int) = n by omega]; exact hy'.1
  obtain ⟨hD, hx', _⟩ := hx'
  obtain ⟨z, hz, _⟩ := ty_info he
  obtain ⟨av, nv, Cv, e1, hnv⟩ : ∃ av nv Cv, ρ k = .slice av nv Cv ∧ nv = es.length := by
    obtain ⟨_, ⟨hv, h0⟩ | ⟨b, off, cap, cur, hv, _⟩⟩ := h2.slot .head
    · exact ⟨_, _, _, hv, h0.symm⟩
    · exact ⟨_, _, _, hv, rfl⟩
  rw [e1] at hx'
  have := pure_cutLo T x y ho e (ty_slice hi hk) hz hx' hy' (by omega)
  exact wp_pure this ⟨ρ, hr.put ⟨hD, av, nv, Cv, e1, rfl⟩ hd⟩
theorem tri_copy {x y : Operand} {tx : TypeId} {ei : TyI} {j : Nat} {p : ByteArray} (ho : o.op = .call { callee := .builtin .copy, args := #[x, y], argTypes := #[T, tx] }) (hi : TyEnv.ti P T = some i) (hk : i.k = .slice e) (he : TyEnv.ti P e = some ei) (h1 : ei.size = 1) (hx : evo rd x = .one (.hv k j)) (hy : evo rd y = .one (.v (.string p))) (h0 : j + p.size ≤ s.size) : Tri P o rd [(k, .byt s)] (.one (.v (.int .i64 p.size))) [(k, .byt (putB s j p))] := by
  intro w0 w ρ m t H a Q hr ht hrs hfr hd
  obtain ⟨A, Js, ⟨b, C, e1, e2, rfl⟩, h2, h3, _⟩ := hr.focus (hrs k _ (List.mem_cons_self ..))
  have hx' := hr.ev x
  rw [evo_of (o := o) (by simp [ho, Op.operands, Call.operands]) ht, hx] at hx'
  have hy' := hr.ev y
  rw [evo_of (o := o) (by simp [ho, Op.operands, Call.operands]) ht, hy] at hy'
  have hy' : a.eval y = .string p := hy'.1
  obtain ⟨hD, b', n', C', q1, hx'⟩ := hx'
  rw [e1] at q1
  simp only [Value.slice.injEq, Option.some.injEq, Addr.mk.injEq, and_true] at q1
  obtain ⟨rfl, rfl, rfl⟩ := q1
  obtain ⟨z, hz, _⟩ := ty_info he
  rw [h1] at hz
  refine wp_copyS_st x y T tx ho e (ty_slice hi hk) hz hx' hy' (by omega) h2 .head h0 fun w' hS => ?_
  exact ⟨ρ, (h3 w' (.byt (putB s j p)) _ ⟨b, C, by rw [putB_size h0]; exact e1, by rw [putB_size h0]; exact e2, rfl⟩ hS).put ⟨rfl, rfl⟩ hd⟩
theorem tri_backB {x : Operand} {ei : TyI} (ho : o.op = .convert S T x) (hs : TyEnv.ti P S = some i') (hsk : i'.k = .slice e) (he : TyEnv.ti P e = some ei) (hek : ei.k = .int .u8) (hi : TyEnv.ti P T = some i) (hk : i.k = .str) (hx : evo rd x = .one (.hs k)) : Tri P o rd [(k, .byt s)] (.one (.v (.string s))) [] := by
  intro w0 w ρ n t H a Q hr ht hrs hfr hd
  obtain ⟨A, Js, ⟨b, C, e1, e2, rfl⟩, h2, _⟩ := hr.focus (hrs k _ (List.mem_cons_self ..))
  have hx' := hr.ev x
  rw [evo_of (o := o) (by simp [ho, Op.operands]) ht, hx] at hx'
  obtain ⟨hD, hx', _⟩ := hx'
  rw [e1] at hx'
  have hu8 : P.underlying e = some (.int .u8) := by have := ty_kind he; rw [hek] at this; exact this
  exact wp_back_st S T x ho e (ty_slice hs hsk) hu8 (ty_str hi hk) hx' h2 .head rfl ⟨ρ, hr.put (ar_v rfl) hd⟩
end
end Go.Vc
end
