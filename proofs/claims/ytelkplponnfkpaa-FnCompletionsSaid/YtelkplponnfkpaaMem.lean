/- Mappings, pages, and the parts of a row of device addresses, as plain functions. No program in sight. -/
import Derived.Test.YtelkplponnfkpaaBase
namespace Go
open Go.RowKit
set_option linter.unusedVariables false

/-- A mapping: domain, device page, physical page, writable. -/
abbrev Mp := Int × Int × Int × Bool
def hit (m : Mp) (d v : Int) : Bool := decide (m.1 = d) && decide (m.2.1 = v)
theorem hit_iff {m : Mp} {d v : Int} : hit m d v = true ↔ m.1 = d ∧ m.2.1 = v := by simp [hit]
theorem hit_no {m : Mp} {d v : Int} : hit m d v = false ↔ ¬ (m.1 = d ∧ m.2.1 = v) := by rw [← hit_iff]; simp
/-- The first mapping of a device page, from the index i on. -/
def mpIdxF (d v : Int) : Nat → List Mp → Int
  | _, [] => -1
  | i, m :: l => if hit m d v then i else mpIdxF d v (i + 1) l
def mpIdx (l : List Mp) (d v : Int) : Int := mpIdxF d v 0 l
theorem mpIdxF_at {d v : Int} : ∀ (l : List Mp) (s i : Nat) (h : i < l.length), (∀ j (g : j < i), hit (l[j]'(by omega)) d v = false) → hit l[i] d v = true → mpIdxF d v s l = ((s + i : Nat) : Int)
  | m :: l, s, 0, h, _, h2 => by simp only [List.getElem_cons_zero] at h2; simp [mpIdxF, h2]
  | m :: l, s, i + 1, h, h1, h2 => by
    have h0 := h1 0 (by omega)
    simp only [List.getElem_cons_zero] at h0
    have ih := mpIdxF_at l (s + 1) i (by simpa using h) (fun j g => by have := h1 (j + 1) (by omega); simpa using this) (by simpa using h2)
    rw [mpIdxF, h0, if_neg (by simp), ih]; omega
theorem mpIdx_at {l : List Mp} {d v : Int} {i : Nat} (h : i < l.length) (h1 : ∀ j (g : j < i), hit (l[j]'(by omega)) d v = false) (h2 : hit l[i] d v = true) : mpIdx l d v = (i : Int) := by
  have := mpIdxF_at l 0 i h h1 h2; simpa [mpIdx] using this
theorem mpIdxF_no {d v : Int} : ∀ (l : List Mp) (s : Nat), (∀ j (g : j < l.length), hit l[j] d v = false) → mpIdxF d v s l = -1
  | [], _, _ => rfl
  | m :: l, s, h => by
    have h0 := h 0 (by simp)
    simp only [List.getElem_cons_zero] at h0
    rw [mpIdxF, h0, if_neg (by simp)]
    exact mpIdxF_no l (s + 1) fun j g => by have := h (j + 1) (by simpa using g); simpa using this
theorem mpIdx_no {l : List Mp} {d v : Int} (h : ∀ j (g : j < l.length), hit l[j] d v = false) : mpIdx l d v = -1 := mpIdxF_no l 0 h
/-- Either no mapping hits, or there is a first one. -/
theorem mp_first (l : List Mp) (d v : Int) : (∀ j (g : j < l.length), hit l[j] d v = false) ∨ ∃ i, ∃ h : i < l.length, (∀ j (g : j < i), hit (l[j]'(by omega)) d v = false) ∧ hit l[i] d v = true := by
  induction l with
  | nil => exact .inl fun j g => by simp at g
  | cons m l ih =>
    cases hm : hit m d v
    · rcases ih with h | ⟨i, h, h1, h2⟩
      · refine .inl fun j g => ?_
        cases j with
        | zero => simpa using hm
        | succ j => simpa using h j (by simpa using g)
      · refine .inr ⟨i + 1, by simpa using h, fun j g => ?_, by simpa using h2⟩
        cases j with
        | zero => simpa using hm
        | succ j => simpa using h1 j (by omega)
    · exact .inr ⟨0, by simp, fun j g => by omega, by simpa using hm⟩

def MapFine (x : Mp) : Prop := (0 ≤ x.1 ∧ x.1 ≤ 7) ∧ (0 ≤ x.2.1 ∧ x.2.1 ≤ 1023) ∧ (0 ≤ x.2.2.1 ∧ x.2.2.1 ≤ 63)
instance (x : Mp) : Decidable (MapFine x) := by unfold MapFine; exact inferInstance
def MapsOk (l : List Mp) : Prop := l.length ≤ 96 ∧ ∀ i (h : i < l.length), MapFine l[i] ∧ ∀ j (g : j < i), ¬ (l[j].1 = l[i].1 ∧ l[j].2.1 = l[i].2.1)
instance (l : List Mp) : Decidable (MapsOk l) := by unfold MapsOk; exact inferInstance
def mapsOk (l : List Mp) : Bool := decide (MapsOk l)
theorem mapsOk_iff {l : List Mp} : mapsOk l = true ↔ MapsOk l := by simp [mapsOk]
theorem mapsOk_not {l : List Mp} (h : ¬ MapsOk l) : mapsOk l = false := by simp [mapsOk, h]
theorem mpIdx_self {l : List Mp} {i : Nat} (h : i < l.length) : mpIdx l l[i].1 l[i].2.1 = (i : Int) ↔ ∀ j (g : j < i), ¬ ((l[j]'(by omega)).1 = l[i].1 ∧ (l[j]'(by omega)).2.1 = l[i].2.1) := by
  constructor
  · intro he j g hj
    rcases mp_first l l[i].1 l[i].2.1 with h1 | ⟨k, hk, h1, h2⟩
    · have := h1 i h; rw [hit_no] at this; exact this ⟨rfl, rfl⟩
    · have e2 := mpIdx_at hk h1 h2
      rw [e2] at he
      have : k = i := by omega
      subst this
      have := h1 j g
      rw [hit_no] at this
      exact this hj
  · intro hj
    exact mpIdx_at h (fun j g => hit_no.2 (hj j g)) (hit_iff.2 ⟨rfl, rfl⟩)

/-- The physical page of a device page, -1 if there is none. -/
def mpPage (l : List Mp) (d v : Int) (wr : Bool) : Int :=
  match l.find? (fun m => hit m d v) with
  | some m => if wr && !m.2.2.2 then -1 else m.2.2.1
  | none => -1
theorem mpPage_at {l : List Mp} {d v : Int} {i : Nat} (h : i < l.length) (h1 : ∀ j (g : j < i), hit (l[j]'(by omega)) d v = false) (h2 : hit l[i] d v = true) (wr : Bool) :
    mpPage l d v wr = if wr && !l[i].2.2.2 then -1 else l[i].2.2.1 := by
  have : l.find? (fun m => hit m d v) = some l[i] := by
    rw [List.find?_eq_some_iff_getElem]
    exact ⟨h2, i, h, rfl, fun j g => by simp [h1 j g]⟩
  unfold mpPage
  rw [this]
theorem mpPage_no {l : List Mp} {d v : Int} (h : ∀ j (g : j < l.length), hit l[j] d v = false) (wr : Bool) : mpPage l d v wr = -1 := by
  have : l.find? (fun m => hit m d v) = none := by
    rw [List.find?_eq_none]
    intro x hx
    obtain ⟨j, g, rfl⟩ := List.getElem_of_mem hx
    simp [h j g]
  unfold mpPage
  rw [this]
theorem mpPage_bd {l : List Mp} (h : MapsOk l) (d v : Int) (wr : Bool) : -1 ≤ mpPage l d v wr ∧ mpPage l d v wr ≤ 63 := by
  rcases mp_first l d v with h1 | ⟨i, hi, h1, h2⟩
  · rw [mpPage_no h1]; omega
  · rw [mpPage_at hi h1 h2]
    have := (h.2 i hi).1.2.2
    split <;> omega
/-- A page that is mapped is one of the first 1024. -/
theorem mpPage_v {l : List Mp} (h : MapsOk l) {d v : Int} {wr : Bool} (hp : 0 ≤ mpPage l d v wr) : 0 ≤ v ∧ v ≤ 1023 := by
  rcases mp_first l d v with h1 | ⟨i, hi, h1, h2⟩
  · rw [mpPage_no h1] at hp; omega
  · have := (h.2 i hi).1.2.1
    have h3 := (hit_iff.1 h2).2
    omega
theorem mpPage_unique {l : List Mp} (h : MapsOk l) {d v : Int} {i : Nat} (hi : i < l.length) (h2 : hit l[i] d v = true) (wr : Bool) :
    mpPage l d v wr = if wr && !l[i].2.2.2 then -1 else l[i].2.2.1 := by
  refine mpPage_at hi (fun j g => ?_) h2 wr
  rw [hit_no]
  intro hj
  have h3 := hit_iff.1 h2
  exact (h.2 i hi).2 j g ⟨by rw [hj.1, h3.1], by rw [hj.2, h3.2]⟩

/-! ### Pages -/
abbrev Pg := List ByteArray
def MemOk (ps : Pg) : Prop := ps.length ≤ 64 ∧ ∀ i (h : i < ps.length), ps[i].size = 128
instance (ps : Pg) : Decidable (MemOk ps) := by unfold MemOk; exact inferInstance
def memOk (ps : Pg) : Bool := decide (MemOk ps)
theorem memOk_iff {ps : Pg} : memOk ps = true ↔ MemOk ps := by simp [memOk]
theorem memOk_not {ps : Pg} (h : ¬ MemOk ps) : memOk ps = false := by simp [memOk, h]
/-- Whether n bytes from an address on exist. -/
def memInB (ps : Pg) (at' n : Int) : Bool := memOk ps && (decide (0 ≤ n) && decide (n ≤ 128 * (ps.length : Int)) && decide (0 ≤ at') && decide (at' ≤ 128 * (ps.length : Int) - n))
theorem memInB_iff {ps : Pg} {at' n : Int} : memInB ps at' n = true ↔ MemOk ps ∧ 0 ≤ n ∧ n ≤ 128 * (ps.length : Int) ∧ 0 ≤ at' ∧ at' ≤ 128 * (ps.length : Int) - n := by
  simp [memInB, memOk_iff, and_assoc]

/-! ### Parts -/
def parts (l : List Mp) (np : Nat) (d : Int) (wr : Bool) (at' : Int) (n : Nat) : Option (List (Int × Int)) :=
  if hn : n = 0 then some [] else
  if at' < 0 then none else
  if mpPage l d (at' / 128) wr < 0 ∨ (np : Int) ≤ mpPage l d (at' / 128) wr then none else
  (parts l np d wr (at' + min (n : Int) (128 - at' % 128)) (n - (min (n : Int) (128 - at' % 128)).toNat)).map ((mpPage l d (at' / 128) wr * 128 + at' % 128, min (n : Int) (128 - at' % 128)) :: ·)
termination_by n
decreasing_by omega
theorem parts_zero {l : List Mp} {np : Nat} {d : Int} {wr : Bool} {at' : Int} : parts l np d wr at' 0 = some [] := by rw [parts]; rfl
theorem parts_neg {l : List Mp} {np : Nat} {d : Int} {wr : Bool} {at' : Int} {n : Nat} (hn : 0 < n) (h : at' < 0) : parts l np d wr at' n = none := by rw [parts, dif_neg (by omega), if_pos h]
theorem parts_none {l : List Mp} {np : Nat} {d : Int} {wr : Bool} {at' : Int} {n : Nat} (hn : 0 < n) (h : mpPage l d (at' / 128) wr < 0 ∨ (np : Int) ≤ mpPage l d (at' / 128) wr) : parts l np d wr at' n = none := by
  rw [parts, dif_neg (by omega)]
  split
  · rfl
  · first | rfl | rw [if_pos h]
theorem parts_some {l : List Mp} {np : Nat} {d : Int} {wr : Bool} {at' : Int} {n : Nat} (hn : 0 < n) (h0 : 0 ≤ at') (h1 : 0 ≤ mpPage l d (at' / 128) wr) (h2 : mpPage l d (at' / 128) wr < (np : Int)) {k : Nat} (hk : (k : Int) = min (n : Int) (128 - at' % 128)) :
    parts l np d wr at' n = (parts l np d wr (at' + k) (n - k)).map ((mpPage l d (at' / 128) wr * 128 + at' % 128, (k : Int)) :: ·) := by
  rw [parts, dif_neg (by omega), if_neg (by omega), if_neg (by omega), ← hk]
  rfl
/-- A part lies within a page that exists. -/
def Seg (np : Nat) (r : Int × Int) : Prop := 0 ≤ r.1 ∧ 1 ≤ r.2 ∧ r.1 % 128 + r.2 ≤ 128 ∧ r.1 / 128 < (np : Int)
theorem parts_fine {l : List Mp} {np : Nat} {d : Int} {wr : Bool} : ∀ (n : Nat) (at' : Int) (rs : List (Int × Int)), parts l np d wr at' n = some rs → (∀ r ∈ rs, Seg np r) ∧ (rs.map (·.2)).sum = (n : Int) ∧ rs.length ≤ n := by
  intro n
  induction n using Nat.strongRecOn with
  | _ n ih =>
    intro at' rs h
    by_cases hn : n = 0
    · subst hn; rw [parts_zero] at h; cases h; simp
    · by_cases h0 : at' < 0
      · rw [parts_neg (by omega) h0] at h; cases h
      · by_cases h1 : mpPage l d (at' / 128) wr < 0 ∨ (np : Int) ≤ mpPage l d (at' / 128) wr
        · rw [parts_none (by omega) h1] at h; cases h
        · obtain ⟨k, hk⟩ : ∃ k : Nat, (k : Int) = min (n : Int) (128 - at' % 128) := ⟨(min (n : Int) (128 - at' % 128)).toNat, by omega⟩
          rw [parts_some (by omega) (by omega) (by omega) (by omega) hk] at h
          cases hp : parts l np d wr (at' + k) (n - k) with
          | none => rw [hp] at h; cases h
          | some qs =>
            rw [hp] at h
            simp only [Option.map_some, Option.some.injEq] at h
            subst h
            obtain ⟨i1, i2, i3⟩ := ih (n - k) (by omega) _ _ hp
            refine ⟨fun r hr => ?_, ?_, ?_⟩
            · rcases List.mem_cons.1 hr with rfl | hr
              · refine ⟨?_, ?_, ?_, ?_⟩ <;> simp only <;> omega
              · exact i1 r hr
            · simp only [List.map_cons, List.sum_cons, i2]; omega
            · simp only [List.length_cons]; omega
def runsOk (l : List Mp) (ps : Pg) (n : Int) : Bool := mapsOk l && (memOk ps && inB n 0 4096)
def runs (l : List Mp) (ps : Pg) (d at' n : Int) (wr : Bool) : Option (List (Int × Int)) := if runsOk l ps n then parts l ps.length d wr at' n.toNat else none
theorem runs_fine {l : List Mp} {ps : Pg} {d at' n : Int} {wr : Bool} {rs : List (Int × Int)} (h : runs l ps d at' n wr = some rs) : MapsOk l ∧ MemOk ps ∧ (0 ≤ n ∧ n ≤ 4096) ∧ (∀ r ∈ rs, Seg ps.length r) ∧ (rs.map (·.2)).sum = n ∧ rs.length ≤ 4096 := by
  unfold runs at h
  split at h
  · rename_i hc
    simp only [runsOk, Bool.and_eq_true, mapsOk_iff, memOk_iff, inB_iff] at hc
    obtain ⟨h1, h2, h3⟩ := hc
    obtain ⟨i1, i2, i3⟩ := parts_fine _ _ _ h
    exact ⟨h1, h2, h3, i1, by rw [i2]; omega, by omega⟩
  · cases h

/-! ### Reading and writing -/
def pageAt (ps : Pg) (a : Int) : ByteArray := ps.getD (a / 128).toNat ⟨#[]⟩
def readSeg (ps : Pg) (r : Int × Int) : ByteArray := (pageAt ps r.1).extract (r.1 % 128).toNat ((r.1 % 128).toNat + r.2.toNat)
def readAll (ps : Pg) : List (Int × Int) → ByteArray → ByteArray
  | [], o => o
  | r :: rs, o => readAll ps rs (o ++ readSeg ps r)
def dmaR (l : List Mp) (ps : Pg) (d at' n : Int) : Option ByteArray := (runs l ps d at' n false).map fun rs => readAll ps rs ⟨#[]⟩
def putB (s : ByteArray) (at' : Nat) (p : ByteArray) : ByteArray := s.extract 0 at' ++ p ++ s.extract (at' + p.size) s.size
def writeSeg (ps : Pg) (a : Int) (b : ByteArray) : Pg := ps.set (a / 128).toNat (putB (pageAt ps a) (a % 128).toNat b)
def writeAll : Pg → List (Int × Int) → ByteArray → Pg
  | ps, [], _ => ps
  | ps, r :: rs, s => writeAll (writeSeg ps r.1 (s.extract 0 r.2.toNat)) rs (s.extract r.2.toNat s.size)
def dmaW (l : List Mp) (ps : Pg) (d at' : Int) (s : ByteArray) (wr : Bool) : Option Pg := (runs l ps d at' s.size wr).map fun rs => writeAll ps rs s
theorem putB_size {s : ByteArray} {a : Nat} {p : ByteArray} (h : a + p.size ≤ s.size) : (putB s a p).size = s.size := by
  unfold putB; rw [ByteArray.size_append, ByteArray.size_append, ByteArray.size_extract, ByteArray.size_extract]; omega
theorem MemOk.page {ps : Pg} (h : MemOk ps) {a : Int} (h0 : 0 ≤ a) (h1 : a / 128 < (ps.length : Int)) : ∃ g : (a / 128).toNat < ps.length, pageAt ps a = ps[(a / 128).toNat] ∧ (pageAt ps a).size = 128 := by
  have g : (a / 128).toNat < ps.length := by omega
  have e : pageAt ps a = ps[(a / 128).toNat] := by unfold pageAt; rw [List.getD_eq_getElem?_getD, List.getElem?_eq_getElem g]; rfl
  exact ⟨g, e, by rw [e]; exact h.2 _ g⟩
theorem readSeg_size {ps : Pg} (h : MemOk ps) {r : Int × Int} (hr : Seg ps.length r) : (readSeg ps r).size = r.2.toNat := by
  obtain ⟨h0, h1, h2, h3⟩ := hr
  obtain ⟨g, _, e⟩ := h.page h0 h3
  unfold readSeg; rw [ByteArray.size_extract, e]; omega
theorem MemOk.writeSeg {ps : Pg} (h : MemOk ps) {a : Int} {b : ByteArray} (h0 : 0 ≤ a) (h1 : a / 128 < (ps.length : Int)) (h2 : a % 128 + b.size ≤ 128) : MemOk (writeSeg ps a b) ∧ (Go.writeSeg ps a b).length = ps.length := by
  obtain ⟨g, e, he⟩ := h.page h0 h1
  have hl : (Go.writeSeg ps a b).length = ps.length := by unfold Go.writeSeg; rw [List.length_set]
  refine ⟨⟨by rw [hl]; exact h.1, fun i hi => ?_⟩, hl⟩
  rw [hl] at hi
  simp only [Go.writeSeg, List.getElem_set]
  split
  · rw [putB_size (by rw [he]; omega), he]
  · exact h.2 i hi
theorem readAll_size {ps : Pg} (h : MemOk ps) : ∀ (rs : List (Int × Int)) (o : ByteArray), (∀ r ∈ rs, Seg ps.length r) → (((readAll ps rs o).size : Nat) : Int) = o.size + (rs.map (·.2)).sum
  | [], o, _ => by simp [readAll]
  | r :: rs, o, hs => by
    have h1 := readSeg_size h (hs r (List.mem_cons_self ..))
    have h2 := readAll_size h rs (o ++ readSeg ps r) fun x hx => hs x (List.mem_cons_of_mem _ hx)
    have h3 := (hs r (List.mem_cons_self ..)).2.1
    rw [readAll, h2, ByteArray.size_append, h1, List.map_cons, List.sum_cons]; omega
theorem dmaR_size {l : List Mp} {ps : Pg} {d at' n : Int} {s : ByteArray} (h : dmaR l ps d at' n = some s) : (s.size : Int) = n ∧ 0 ≤ n ∧ n ≤ 4096 ∧ MapsOk l ∧ MemOk ps := by
  unfold dmaR at h
  cases hr : runs l ps d at' n false with
  | none => rw [hr] at h; cases h
  | some rs =>
    rw [hr] at h
    simp only [Option.map_some, Option.some.injEq] at h
    subst h
    obtain ⟨h1, h2, h3, h4, h5, h6⟩ := runs_fine hr
    rw [readAll_size h2 rs _ h4, h5]
    exact ⟨by show ((0 : Nat) : Int) + n = n; omega, h3.1, h3.2, h1, h2⟩
/-- The parts of what is written fit the bytes. -/
def Fits (np : Nat) (rs : List (Int × Int)) (n : Nat) : Prop := (∀ r ∈ rs, Seg np r) ∧ (rs.map (·.2)).sum = (n : Int)
theorem Fits.cons {np : Nat} {r : Int × Int} {rs : List (Int × Int)} {n : Nat} (h : Fits np (r :: rs) n) : Seg np r ∧ r.2 ≤ n ∧ Fits np rs (n - r.2.toNat) := by
  obtain ⟨h1, h2⟩ := h
  have h3 := h1 r (List.mem_cons_self ..)
  have h4 : ∀ q ∈ rs, 0 ≤ q.2 := fun q hq => by have := (h1 q (List.mem_cons_of_mem _ hq)).2.1; omega
  have h5 : 0 ≤ (rs.map (·.2)).sum := by
    clear h1 h2 h3
    induction rs with
    | nil => simp
    | cons q rs ih =>
      have := ih fun x hx => h4 x (List.mem_cons_of_mem _ hx)
      have := h4 q (List.mem_cons_self ..)
      simp only [List.map_cons, List.sum_cons]; omega
  simp only [List.map_cons, List.sum_cons] at h2
  have := h3.2.1
  exact ⟨h3, by omega, fun q hq => h1 q (List.mem_cons_of_mem _ hq), by omega⟩
theorem writeAll_ok : ∀ (rs : List (Int × Int)) (ps : Pg) (s : ByteArray), MemOk ps → Fits ps.length rs s.size → MemOk (writeAll ps rs s) ∧ (writeAll ps rs s).length = ps.length
  | [], ps, s, h, _ => ⟨h, rfl⟩
  | r :: rs, ps, s, h, hf => by
    obtain ⟨h1, h2, h3⟩ := hf.cons
    obtain ⟨g0, g1, g2, g3⟩ := h1
    have e : (s.extract 0 r.2.toNat).size = r.2.toNat := by rw [ByteArray.size_extract]; omega
    obtain ⟨k1, k2⟩ := h.writeSeg (a := r.1) (b := s.extract 0 r.2.toNat) g0 g3 (by rw [e]; omega)
    have e2 : (s.extract r.2.toNat s.size).size = s.size - r.2.toNat := by rw [ByteArray.size_extract]; omega
    have := writeAll_ok rs (writeSeg ps r.1 (s.extract 0 r.2.toNat)) (s.extract r.2.toNat s.size) k1 (by rw [k2, e2]; exact h3)
    rw [writeAll, this.2, k2]
    exact ⟨this.1, rfl⟩
theorem dmaW_ok {l : List Mp} {ps : Pg} {d at' : Int} {s : ByteArray} {wr : Bool} {qs : Pg} (h : dmaW l ps d at' s wr = some qs) : MemOk qs ∧ qs.length = ps.length ∧ MemOk ps ∧ MapsOk l ∧ s.size ≤ 4096 := by
  unfold dmaW at h
  cases hr : runs l ps d at' s.size wr with
  | none => rw [hr] at h; cases h
  | some rs =>
    rw [hr] at h
    simp only [Option.map_some, Option.some.injEq] at h
    subst h
    obtain ⟨h1, h2, h3, h4, h5, h6⟩ := runs_fine hr
    obtain ⟨k1, k2⟩ := writeAll_ok rs ps s h2 ⟨h4, h5⟩
    exact ⟨k1, k2, h2, h1, by omega⟩
/-- Mappings made writable. -/
def mpOpen (l : List Mp) : List Mp := l.map fun m => (m.1, m.2.1, m.2.2.1, true)
theorem mpOpen_length (l : List Mp) : (mpOpen l).length = l.length := by simp [mpOpen]
theorem mpOpen_get {l : List Mp} {i : Nat} (h : i < (mpOpen l).length) : (mpOpen l)[i] = ((l[i]'(by simpa [mpOpen] using h)).1, (l[i]'(by simpa [mpOpen] using h)).2.1, (l[i]'(by simpa [mpOpen] using h)).2.2.1, true) := by simp [mpOpen]
theorem mapsOk_open (l : List Mp) : mapsOk (mpOpen l) = mapsOk l := by
  rw [Bool.eq_iff_iff, mapsOk_iff, mapsOk_iff]
  unfold MapsOk
  constructor
  · rintro ⟨h1, h2⟩
    rw [mpOpen_length] at h1
    refine ⟨h1, fun i hi => ?_⟩
    have := h2 i (by rw [mpOpen_length]; exact hi)
    simp only [mpOpen_get] at this
    exact this
  · rintro ⟨h1, h2⟩
    refine ⟨by rw [mpOpen_length]; exact h1, fun i hi => ?_⟩
    simp only [mpOpen_get]
    exact h2 i (by rw [mpOpen_length] at hi; exact hi)
theorem mpPage_open (l : List Mp) (d v : Int) : mpPage (mpOpen l) d v true = mpPage l d v false := by
  have e : (mpOpen l).find? (fun m => hit m d v) = (l.find? (fun m => hit m d v)).map fun m => (m.1, m.2.1, m.2.2.1, true) := by
    unfold mpOpen; rw [List.find?_map]; rfl
  unfold mpPage
  rw [e]
  cases l.find? (fun m => hit m d v) <;> rfl
theorem parts_open {l : List Mp} {np : Nat} {d : Int} : ∀ (n : Nat) (at' : Int), parts (mpOpen l) np d true at' n = parts l np d false at' n := by
  intro n
  induction n using Nat.strongRecOn with
  | _ n ih =>
    intro at'
    rw [parts, parts.eq_def (l := l), mpPage_open]
    split
    · rfl
    · split
      · rfl
      · split
        · rfl
        · rw [ih _ (by omega)]
theorem dmaW_open (l : List Mp) (ps : Pg) (d at' : Int) (s : ByteArray) : dmaW (mpOpen l) ps d at' s true = dmaW l ps d at' s false := by
  unfold dmaW runs runsOk
  rw [mapsOk_open, parts_open]
end Go
