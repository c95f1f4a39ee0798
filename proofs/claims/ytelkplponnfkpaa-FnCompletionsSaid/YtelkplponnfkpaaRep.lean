/- Data as trees: how a Lean value is held by cells of memory; how an argument of a row is opened. No program in sight. -/
import Derived.Test.YtelkplponnfkpaaBase
import Derived.ProofKit
import Derived.OpenShut
import Derived.ShutString
import Derived.ChangeOld
import Derived.Deep.Slices
namespace Go
open Go.RowKit

/-- 'tree w a vs bs': the cells vs hold a in the world w; its slices lie in the blocks bs. -/
class Rep (α : Type) where
  size : Nat
  tree : World → α → List Value → List Nat → Prop
  pos : 0 < size
  len : ∀ {w : World} {a : α} {vs : List Value} {bs : List Nat}, tree w a vs bs → vs.length = size
  lt : ∀ {w : World} {a : α} {vs : List Value} {bs : List Nat}, tree w a vs bs → ∀ b ∈ bs, b < w.heap.size
  stable : ∀ {w w' : World} {a : α} {vs : List Value} {bs : List Nat}, tree w a vs bs → (∀ b ∈ bs, w'.heap[b]? = w.heap[b]?) → tree w' a vs bs

def i64ok (n : Int) : Prop := -9223372036854775808 ≤ n ∧ n ≤ 9223372036854775807

instance : Rep Int where
  size := 1
  tree _ n vs bs := vs = [.int .i64 n] ∧ bs = [] ∧ i64ok n
  pos := by decide
  len := by rintro _ _ _ _ ⟨rfl, _⟩; rfl
  lt := by rintro _ _ _ _ ⟨_, rfl, _⟩ b hb; cases hb
  stable := fun h _ => h

instance : Rep Bool where
  size := 1
  tree _ n vs bs := vs = [.bool n] ∧ bs = []
  pos := by decide
  len := by rintro _ _ _ _ ⟨rfl, _⟩; rfl
  lt := by rintro _ _ _ _ ⟨_, rfl⟩ b hb; cases hb
  stable := fun h _ => h

instance : Rep ByteArray where
  size := 1
  tree _ s vs bs := vs = [.string s] ∧ bs = [] ∧ s.size ≤ maxLen
  pos := by decide
  len := by rintro _ _ _ _ ⟨rfl, _⟩; rfl
  lt := by rintro _ _ _ _ ⟨_, rfl, _⟩ b hb; cases hb
  stable := fun h _ => h

instance : Rep UInt8 where
  size := 1
  tree _ n vs bs := vs = [.int .u8 n.toNat] ∧ bs = []
  pos := by decide
  len := by rintro _ _ _ _ ⟨rfl, _⟩; rfl
  lt := by rintro _ _ _ _ ⟨_, rfl⟩ b hb; cases hb
  stable := fun h _ => h

instance {α β : Type} [Rep α] [Rep β] : Rep (α × β) where
  size := Rep.size α + Rep.size β
  tree w x vs bs := ∃ v1 v2 b1 b2, vs = v1 ++ v2 ∧ bs = b1 ++ b2 ∧ Rep.tree w x.1 v1 b1 ∧ Rep.tree w x.2 v2 b2
  pos := Nat.add_pos_left (Rep.pos) _
  len := by rintro _ _ _ _ ⟨v1, v2, b1, b2, rfl, rfl, h1, h2⟩; rw [List.length_append, Rep.len h1, Rep.len h2]
  lt := by
    rintro _ _ _ _ ⟨v1, v2, b1, b2, rfl, rfl, h1, h2⟩ b hb
    rcases List.mem_append.1 hb with hb | hb
    · exact Rep.lt h1 b hb
    · exact Rep.lt h2 b hb
  stable := by
    rintro _ _ _ _ _ ⟨v1, v2, b1, b2, rfl, rfl, h1, h2⟩ h
    exact ⟨v1, v2, b1, b2, rfl, rfl, Rep.stable h1 fun b hb => h b (List.mem_append_left _ hb), Rep.stable h2 fun b hb => h b (List.mem_append_right _ hb)⟩

/-- The elements of a slice, from cell 'off' of the row 'cur' on. -/
def Elems {α : Type} [Rep α] (w : World) (xs : List α) (cur : Array Value) (off : Nat) (ts : Nat → List Value) (ds : Nat → List Nat) : Prop :=
  ∀ i (h : i < xs.length), Rep.tree w (xs[i]'h) (ts i) (ds i) ∧ ∀ j, j < Rep.size α → cur[off + i * Rep.size α + j]? = (ts i)[j]?

instance {α : Type} [Rep α] : Rep (List α) where
  size := 1
  tree w xs vs bs := ∃ a cap, vs = [.slice a xs.length cap] ∧ xs.length ≤ cap ∧ cap ≤ maxLen ∧
    ((cap = 0 ∧ bs = []) ∨ ∃ b off cur E fr ts ds, a = some ⟨b, off, none⟩ ∧ 0 < cap ∧ w.heap[b]? = some (.cells cur E fr) ∧ off + cap * Rep.size α ≤ cur.size ∧
      bs = b :: (List.range xs.length).flatMap ds ∧ Elems w xs cur off ts ds)
  pos := by decide
  len := by rintro _ _ _ _ ⟨_, _, rfl, _⟩; rfl
  lt := by
    rintro w xs _ _ ⟨_, _, rfl, _, _, ⟨_, rfl⟩ | ⟨b, off, cur, E, fr, ts, ds, _, _, hb, _, rfl, he⟩⟩ c hc
    · cases hc
    · rcases List.mem_cons.1 hc with rfl | hc
      · rcases Nat.lt_or_ge c w.heap.size with h | h
        · exact h
        · rw [Array.getElem?_eq_none h] at hb; cases hb
      · obtain ⟨i, hi, hc⟩ := List.mem_flatMap.1 hc
        exact Rep.lt (he i (List.mem_range.1 hi)).1 c hc
  stable := by
    rintro w w' xs _ _ ⟨a, cap, rfl, h1, h2, h3⟩ h
    refine ⟨a, cap, rfl, h1, h2, ?_⟩
    rcases h3 with ⟨h3, rfl⟩ | ⟨b, off, cur, E, fr, ts, ds, ha, hp, hb, hs, rfl, he⟩
    · exact .inl ⟨h3, rfl⟩
    · refine .inr ⟨b, off, cur, E, fr, ts, ds, ha, hp, ?_, hs, rfl, ?_⟩
      · rw [h b (List.mem_cons_self ..)]; exact hb
      · intro i hi
        refine ⟨Rep.stable (he i hi).1 fun c hc => h c (List.mem_cons_of_mem _ ?_), (he i hi).2⟩
        exact List.mem_flatMap.2 ⟨i, List.mem_range.2 hi, hc⟩

/-- The cells vs hold a (read only: wherever). -/
def Holds {α : Type} [Rep α] (w : World) (a : α) (vs : List Value) : Prop := ∃ bs, Rep.tree w a vs bs
theorem Holds.ex {α : Type} [Rep α] {w w' : World} {a : α} {vs : List Value} (h : Holds w a vs) (hx : Ex w w') : Holds w' a vs := by
  obtain ⟨bs, h⟩ := h
  exact ⟨bs, Rep.stable h fun b hb => hx.block (Rep.lt h b hb)⟩
/-- The cells vs hold a, in blocks from lo on, no two of its slices in one block, none frozen. -/
def Owns {α : Type} [Rep α] (lo : Nat) (w : World) (a : α) (vs : List Value) : Prop :=
  ∃ bs, Rep.tree w a vs bs ∧ bs.Nodup ∧ ∀ b ∈ bs, lo ≤ b ∧ ∀ o, w.frozen? ⟨b, o, none⟩ = false
theorem Owns.holds {α : Type} [Rep α] {lo : Nat} {w : World} {a : α} {vs : List Value} (h : Owns lo w a vs) : Holds w a vs := let ⟨bs, h, _⟩ := h; ⟨bs, h⟩
theorem Owns.ex {α : Type} [Rep α] {lo : Nat} {w w' : World} {a : α} {vs : List Value} (h : Owns lo w a vs) (hx : Ex w w') : Owns lo w' a vs := by
  obtain ⟨bs, h, hn, hb⟩ := h
  exact ⟨bs, Rep.stable h fun b hb => hx.block (Rep.lt h b hb), hn, fun b hb' => ⟨(hb b hb').1, fun o => by rw [hx.frozen (p := ⟨b, o, none⟩) (Rep.lt h b hb')]; exact (hb b hb').2 o⟩⟩
theorem Owns.lower {α : Type} [Rep α] {lo lo' : Nat} {w : World} {a : α} {vs : List Value} (h : Owns lo w a vs) (hl : lo' ≤ lo) : Owns lo' w a vs := by
  obtain ⟨bs, h, hn, hb⟩ := h
  exact ⟨bs, h, hn, fun b hb' => ⟨Nat.le_trans hl (hb b hb').1, (hb b hb').2⟩⟩

/-! ### Opening what a row reads -/
section
variable {P : Program}
def Opens (P : Program) (t : TypeId) (α : Type) [Rep α] : Prop := P.cellsOf t = Rep.size α ∧
  ∀ {H : Type} (enc : TypeId × Value → H) (w : World) (base : Nat) (held : Bool) (fuel : Nat) (cs : List Value) (x : DataW H × List MemPlace),
    DataW.trod enc P w base (fun _ => true) held fuel t cs = some x → ∃ a : α, Holds w a cs
theorem Opens.int {t : TypeId} (ht : P.underlying t = some (.int .i64)) (hc : P.cellsOf t = 1) : Opens P t Int :=
  ⟨hc, fun enc w base held fuel cs x h => by
    obtain ⟨n, rfl, _, hw⟩ := DataW.trod_int ht h
    refine ⟨n, [], rfl, rfl, ?_⟩
    have := bounds_i64 hw
    unfold i64ok; omega⟩
theorem Opens.byte {t : TypeId} (ht : P.underlying t = some (.int .u8)) (hc : P.cellsOf t = 1) : Opens P t UInt8 :=
  ⟨hc, fun enc w base held fuel cs x h => by
    obtain ⟨n, rfl, _, hw⟩ := DataW.trod_int ht h
    have hw := bounds_u8 hw
    refine ⟨UInt8.ofNat n.toNat, [], ?_, rfl⟩
    have : (UInt8.ofNat n.toNat).toNat = n.toNat := by simp [UInt8.toNat_ofNat']; omega
    rw [this]
    congr 2; omega⟩
theorem Opens.bool {t : TypeId} (ht : P.underlying t = some .bool) (hc : P.cellsOf t = 1) : Opens P t Bool :=
  ⟨hc, fun enc w base held fuel cs x h => by
    obtain ⟨n, rfl, _⟩ := DataW.trod_bool ht h
    exact ⟨n, [], rfl, rfl⟩⟩
theorem Opens.string {t : TypeId} (ht : P.underlying t = some .string) (hc : P.cellsOf t = 1) : Opens P t ByteArray :=
  ⟨hc, fun enc w base held fuel cs x h => by
    obtain ⟨n, rfl, _, hw⟩ := DataW.trod_string ht h
    exact ⟨n, [], rfl, rfl, hw⟩⟩
theorem Opens.slice {t e : TypeId} {α : Type} [Rep α] (ht : P.underlying t = some (.slice e)) (hc : P.cellsOf t = 1) (he : Opens P e α) : Opens P t (List α) :=
  ⟨hc, fun enc w base held fuel cs x h => by
    rcases Deep.open_slice ht h with ⟨rfl, _⟩ | ⟨a, len, cap, m, n, D, Pl, rfl, _, hl, hm, hmm, _, hx⟩
    · exact ⟨[], [], none, 0, rfl, Nat.le_refl _, Nat.zero_le _, .inl ⟨rfl, rfl⟩⟩
    · simp only [if_true] at hmm
      subst hmm
      have key : ∀ i, i < m → ∃ p : α × List Value × List Nat, Rep.tree w p.1 p.2.1 p.2.2 ∧ w.cells? base (a.add (i * P.cellsOf e)) (P.cellsOf e) = some p.2.1 := by
        intro i hi
        obtain ⟨cs', h1, h2⟩ := hx i hi
        obtain ⟨y, bs, hy⟩ := he.2 enc w base held n cs' _ h2
        exact ⟨(y, cs', bs), hy, h1⟩
      by_cases h0 : m = 0
      · subst h0
        obtain rfl : len = 0 := by omega
        exact ⟨[], [], some a, 0, rfl, Nat.le_refl _, Nat.zero_le _, .inl ⟨rfl, rfl⟩⟩
      · obtain ⟨p0, _, hp0⟩ := key 0 (by omega)
        haveI : Inhabited (α × List Value × List Nat) := ⟨p0⟩
        obtain ⟨F, hF⟩ := Deep.choose_lt key
        obtain ⟨b, off, spot⟩ := a
        have hpos : 0 < P.cellsOf e := by rw [he.1]; exact Rep.pos
        have hcell : ∀ i, i < m → ∀ j, j < P.cellsOf e → w.cell? ((⟨b, off, spot⟩ : Addr).add (i * P.cellsOf e + j)) = (F i).2.1[j]? ∧ (F i).2.1.length = P.cellsOf e := by
          intro i hi j hj
          obtain ⟨_, h2, h3⟩ := World.cells?_some (hF i hi).2
          refine ⟨?_, h2⟩
          rw [← h3 j hj, Deep.add_add]
        have hs : spot = none := by
          have h1 := hcell 0 (by omega) 0 hpos
          have h2 : w.cell? ((⟨b, off, spot⟩ : Addr).add (0 * P.cellsOf e + 0)) = some ((F 0).2.1[0]'(by rw [h1.2]; exact hpos)) := h1.1.trans (List.getElem?_eq_getElem _)
          simpa [Addr.add] using World.cell?_spot h2
        subst hs
        have hadd : ∀ k, (⟨b, off, none⟩ : Addr).add k = ⟨b, off + k, none⟩ := by intro k; unfold Addr.add; split <;> simp_all
        obtain ⟨cur, E, fr, hcur⟩ : ∃ cur E fr, w.heap[b]? = some (.cells cur E fr) := by
          have h1 := hcell 0 (by omega) 0 hpos
          have h2 : w.cell? ⟨b, off + (0 * P.cellsOf e + 0), none⟩ = some ((F 0).2.1[0]'(by rw [h1.2]; exact hpos)) := by rw [← hadd]; exact h1.1.trans (List.getElem?_eq_getElem _)
          unfold World.cell? at h2
          split at h2
          · rename_i c e f hb; exact ⟨c, e, f, hb⟩
          · cases h2
        have hget : ∀ i, i < m → ∀ j, j < P.cellsOf e → cur[off + (i * P.cellsOf e + j)]? = (F i).2.1[j]? := by
          intro i hi j hj
          rw [← (hcell i hi j hj).1, hadd]
          simp [World.cell?, hcur]
        refine ⟨(List.range len).map fun i => (F i).1, b :: (List.range len).flatMap fun i => (F i).2.2, some ⟨b, off, none⟩, m, by simp, by simpa using hl, hm, .inr ⟨b, off, cur, E, fr, fun i => (F i).2.1, fun i => (F i).2.2, rfl, by omega, hcur, ?_, by simp, ?_⟩⟩
        · rw [← he.1]
          have h1 := hget (m - 1) (by omega) (P.cellsOf e - 1) (by omega)
          have h2 := (hcell (m - 1) (by omega) 0 hpos).2
          rw [List.getElem?_eq_getElem (by omega)] at h1
          have h3 := (Array.getElem?_eq_some_iff.1 h1).1
          have h4 : (m - 1) * P.cellsOf e + P.cellsOf e = m * P.cellsOf e := by rw [← Nat.succ_mul]; congr 1; omega
          omega
        · intro i hi
          have hi' : i < len := by simpa using hi
          refine ⟨by simpa using (hF i (by omega)).1, fun j hj => ?_⟩
          rw [← he.1] at hj ⊢
          rw [Nat.add_assoc]
          exact hget i (by omega) j hj⟩
/-- The fields of a struct, from the offset 'off' on. -/
inductive OpensL (P : Program) : Nat → List Field → (α : Type) → [Rep α] → Prop
  | one {off : Nat} {f : Field} {α : Type} [Rep α] (h : f.offset = off) (ho : Opens P f.type α) : OpensL P off [f] α
  | cons {off : Nat} {f : Field} {fs : List Field} {α β : Type} [Rep α] [Rep β] (h : f.offset = off) (ho : Opens P f.type α) (hs : OpensL P (off + Rep.size α) fs β) : OpensL P off (f :: fs) (α × β)
end
theorem OpensL.open {P : Program} {off : Nat} {fs : List Field} {α : Type} [i : Rep α] (ho : OpensL P off fs α) : ∀ {H : Type} (enc : TypeId × Value → H) (w : World) (base : Nat) (held : Bool) (fuel : Nat) (cs : List Value),
    cs.length = off + Rep.size α → (∀ f ∈ fs, ∃ x, DataW.trod enc P w base (fun _ => true) held fuel f.type ((cs.drop f.offset).take (P.cellsOf f.type)) = some x) → ∃ a : α, Holds w a (cs.drop off) := by
  induction ho with
  | one h ho =>
    intro H enc w base held fuel cs hl hf
    obtain ⟨x, hx⟩ := hf _ (List.mem_cons_self ..)
    obtain ⟨a, ha⟩ := ho.2 enc w base held fuel _ _ hx
    refine ⟨a, ?_⟩
    rw [h, ho.1, List.take_of_length_le (by rw [List.length_drop]; omega)] at ha
    exact ha
  | cons h ho hs ih =>
    intro H enc w base held fuel cs hl hf
    obtain ⟨x, hx⟩ := hf _ (List.mem_cons_self ..)
    obtain ⟨a, ba, ha⟩ := ho.2 enc w base held fuel _ _ hx
    obtain ⟨b, bb, hb⟩ := ih enc w base held fuel cs (by rw [hl]; simp only [Rep.size]; omega) (fun f hm => hf f (List.mem_cons_of_mem _ hm))
    refine ⟨(a, b), ba ++ bb, _, _, ba, bb, ?_, rfl, ha, hb⟩
    rw [h, ho.1, ← List.drop_drop, List.take_append_drop]
theorem Opens.struct {P : Program} {t : TypeId} {fs : Array Field} {α : Type} [Rep α] (ht : P.underlying t = some (.struct fs)) (hc : P.cellsOf t = Rep.size α) (h : OpensL P 0 fs.toList α) : Opens P t α :=
  ⟨hc, fun enc w base held fuel cs x hx => by
    obtain ⟨xs, n, rfl, _, hl, hxs, hfs⟩ := DataW.trod_struct ht hx
    have := h.open enc w base held n cs (by omega) (fun f hf => by
      obtain ⟨i, hi, rfl⟩ := List.getElem_of_mem hf
      have hi' : i < fs.size := by simpa using hi
      have := hfs i _ (by rw [Array.getElem?_eq_getElem hi'])
      refine ⟨xs[i]'(by omega), ?_⟩
      rw [List.getElem?_eq_getElem (by omega)] at this
      simpa using this)
    simpa using this⟩
end Go
