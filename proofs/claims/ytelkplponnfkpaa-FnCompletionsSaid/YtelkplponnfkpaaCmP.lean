/- Completion rings in the memory of the law FnCompletions: what is written is read, in plain Lean. -/
import Derived.Test.YtelkplponnfkpaaRows
import Derived.Test.YtelkplponnfkpaaCq2
namespace Go.Proofs.Ytelkplponnfkpaa
open Go.RowKit
set_option linter.unusedVariables false
set_option linter.unusedSimpArgs false
def L5 : List Mp := [(0, 0, 4, true), (0, 1, 3, true), (0, 2, 2, true), (0, 3, 1, true), (0, 4, 0, true)]
theorem L5_ok : mapsOk L5 = true := by decide
theorem L5_page {v : Int} (h0 : 0 ≤ v) (h1 : v ≤ 4) (wr : Bool) : mpPage L5 0 v wr = 4 - v := by
  have : v = 0 ∨ v = 1 ∨ v = 2 ∨ v = 3 ∨ v = 4 := by omega
  rcases this with rfl | rfl | rfl | rfl | rfl <;> cases wr <;> rfl
def pa (i : Int) : Int := (4 - (64 + 16 * i) / 128) * 128 + (64 + 16 * i) % 128
theorem runs_slot {ps : Pg} (hm : MemOk ps) (hl : ps.length = 5) {i : Int} (h0 : 0 ≤ i) (h1 : i ≤ 7) (wr : Bool) : runs L5 ps 0 (64 + 16 * i) 16 wr = some [(pa i, 16)] := by
  have hp := L5_page (v := (64 + 16 * i) / 128) (by omega) (by omega) wr
  unfold runs
  rw [if_pos (by simp only [runsOk, L5_ok, memOk_iff.2 hm, Bool.true_and]; decide)]
  show parts L5 ps.length 0 wr (64 + 16 * i) 16 = _
  rw [parts_some (by omega) (by omega) (by rw [hp]; omega) (by rw [hp, hl]; omega) (k := 16) (by omega), hp]
  rw [show 16 - 16 = 0 from rfl, parts_zero]
  rfl
def mb (ps : Pg) (i : Int) (k : Nat) : Nat := bAt (pageAt ps (pa i)) ((pa i % 128).toNat + k)
theorem bAt_extract (s : ByteArray) (a b k : Nat) : bAt (s.extract a b) k = if a + k < b then bAt s (a + k) else 0 := by
  unfold bAt
  by_cases h : k < (s.extract a b).size
  · rw [dif_pos h]
    have h2 : k < min b s.size - a := by rw [ByteArray.size_extract] at h; exact h
    rw [if_pos (by omega), dif_pos (by omega), ByteArray.getElem_extract]
  · rw [dif_neg h]
    have h2 : ¬ k < min b s.size - a := by rw [ByteArray.size_extract] at h; exact h
    split
    · rw [dif_neg (by omega)]
    · rfl
theorem bAt_append (s t : ByteArray) (k : Nat) : bAt (s ++ t) k = if k < s.size then bAt s k else bAt t (k - s.size) := by
  unfold bAt
  by_cases h : k < s.size
  · rw [if_pos h, dif_pos (by rw [ByteArray.size_append]; omega), dif_pos h, ByteArray.getElem_append_left h]
  · rw [if_neg h]
    by_cases h2 : k - s.size < t.size
    · rw [dif_pos (by rw [ByteArray.size_append]; omega), dif_pos h2, ByteArray.getElem_append_right (by omega)]
    · rw [dif_neg (by rw [ByteArray.size_append]; omega), dif_neg h2]
theorem bAt_putB {s p : ByteArray} {a : Nat} (h : a + p.size ≤ s.size) (k : Nat) : bAt (putB s a p) k = if a ≤ k ∧ k < a + p.size then bAt p (k - a) else bAt s k := by
  unfold putB
  have ea : (s.extract 0 a).size = a := by rw [ByteArray.size_extract]; omega
  have eb : ∀ k, k < a → bAt (s.extract 0 a) k = bAt s k := fun k hk => by rw [bAt_extract, if_pos (by omega), Nat.zero_add]
  have ec : ∀ k, bAt (s.extract (a + p.size) s.size) k = if a + p.size + k < s.size then bAt s (a + p.size + k) else 0 := fun k => bAt_extract _ _ _ _
  generalize s.extract 0 a = u at *
  generalize s.extract (a + p.size) s.size = v at *
  have e0 : bAt (u ++ p ++ v) k = if k < a + p.size then (if k < a then bAt u k else bAt p (k - a)) else bAt v (k - (a + p.size)) := by
    rw [bAt_append, bAt_append, ByteArray.size_append, ea]
  rw [e0]
  by_cases h1 : k < a
  · have q1 : k < a + p.size := by omega
    have q2 : ¬ (a ≤ k ∧ k < a + p.size) := by omega
    rw [if_pos q1, if_pos h1, if_neg q2, eb k h1]
  · by_cases h2 : k < a + p.size
    · have q2 : a ≤ k ∧ k < a + p.size := by omega
      rw [if_pos h2, if_neg h1, if_pos q2]
    · have q2 : ¬ (a ≤ k ∧ k < a + p.size) := by omega
      rw [if_neg h2, if_neg q2, ec]
      by_cases h3 : k < s.size
      · have q3 : a + p.size + (k - (a + p.size)) = k := by omega
        rw [q3, if_pos h3]
      · have q3 : a + p.size + (k - (a + p.size)) = k := by omega
        rw [q3, if_neg h3]
        unfold bAt; rw [dif_neg h3]
theorem dmaR_slot {ps : Pg} (hm : MemOk ps) (hl : ps.length = 5) {i : Int} (h0 : 0 ≤ i) (h1 : i ≤ 7) : ∃ t, dmaRF L5 ps 0 (64 + 16 * i) 16 = (t, true) ∧ t.size = 16 ∧ ∀ k, k < 16 → bAt t k = mb ps i k := by
  refine ⟨readSeg ps (pa i, 16), ?_, ?_, fun k hk => ?_⟩
  · rw [dmaRF_yes (runs_slot hm hl h0 h1 false)]
    simp only [readAll]
    rw [ba_empty]
  · exact readSeg_size hm ⟨by unfold pa; omega, by omega, by unfold pa; omega, by rw [hl]; unfold pa; omega⟩
  · unfold readSeg mb
    rw [bAt_extract, if_pos (by omega)]
theorem dmaW_slot {ps : Pg} (hm : MemOk ps) (hl : ps.length = 5) {i : Int} (h0 : 0 ≤ i) (h1 : i ≤ 7) {e : ByteArray} (he : e.size = 16) : ∃ qs, dmaWF L5 ps 0 (64 + 16 * i) e true = (qs, true) ∧ MemOk qs ∧ qs.length = 5 ∧
    ∀ j k, 0 ≤ j → j ≤ 7 → k < 16 → mb qs j k = if i = j then bAt e k else mb ps j k := by
  have hr : runs L5 ps 0 (64 + 16 * i) (e.size : Int) true = some [(pa i, (e.size : Int))] := by rw [he]; exact runs_slot hm hl h0 h1 true
  have hw := hm.writeSeg (a := pa i) (b := e) (by unfold pa; omega) (by rw [hl]; unfold pa; omega) (by rw [he]; unfold pa; omega)
  refine ⟨writeSeg ps (pa i) e, ?_, hw.1, hw.2.trans hl, fun j k j0 j1 hk => ?_⟩
  · rw [dmaWF_yes hr]
    simp only [writeAll, Int.toNat_natCast]
    rw [ByteArray.extract_zero_size]
  · obtain ⟨g, e1, e2⟩ := hm.page (a := pa i) (by unfold pa; omega) (by rw [hl]; unfold pa; omega)
    obtain ⟨g', e1', e2'⟩ := hm.page (a := pa j) (by unfold pa; omega) (by rw [hl]; unfold pa; omega)
    obtain ⟨g2, e3, e4⟩ := hw.1.page (a := pa j) (by unfold pa; omega) (by rw [hw.2, hl]; unfold pa; omega)
    unfold mb
    rw [e3]
    by_cases hp : (pa i / 128).toNat = (pa j / 128).toNat
    · have : (writeSeg ps (pa i) e)[(pa j / 128).toNat] = putB (pageAt ps (pa i)) (pa i % 128).toNat e := by
        simp only [writeSeg, List.getElem_set, hp, if_true]
      rw [this, bAt_putB (by rw [e2, he]; unfold pa; omega), he]
      by_cases hij : i = j
      · subst hij
        rw [if_pos (by omega), if_pos rfl]; congr 1; omega
      · rw [if_neg (by unfold pa at hp ⊢; omega), if_neg hij]
        have : pageAt ps (pa i) = pageAt ps (pa j) := by rw [e1, e1']; simp only [hp]
        rw [this]
    · have : (writeSeg ps (pa i) e)[(pa j / 128).toNat] = ps[(pa j / 128).toNat] := by
        simp only [writeSeg, List.getElem_set, if_neg hp]
      rw [this, e1', if_neg (fun h => hp (by rw [h]))]
def w16 (ps : Pg) (i : Int) : Int := ((mb ps i 0 * 256 + mb ps i 1 : Nat) : Int)
def w32 (ps : Pg) (i : Int) : Int := ((mb ps i 12 * 16777216 + mb ps i 13 * 65536 + mb ps i 14 * 256 + mb ps i 15 : Nat) : Int)
theorem bAt_lit {xs : List Int} {i : Nat} (h : i < xs.length) : bAt (strOfNums xs) i = xs[i].toNat % 256 := by
  unfold bAt
  rw [dif_pos (by rw [strOfNums_size]; exact h)]
  show ((xs.map fun n => UInt8.ofNat n.toNat).toArray[i]'(by simpa using h)).toNat = _
  simp
theorem bAt_str2 (a b : Int) : bAt (strOfNums [a, b]) 0 = a.toNat % 256 ∧ bAt (strOfNums [a, b]) 1 = b.toNat % 256 :=
  ⟨bAt_lit (xs := [a, b]) (by simp), bAt_lit (xs := [a, b]) (by simp)⟩
theorem bAt_str4 (a b c d : Int) : bAt (strOfNums [a, b, c, d]) 0 = a.toNat % 256 ∧ bAt (strOfNums [a, b, c, d]) 1 = b.toNat % 256 ∧ bAt (strOfNums [a, b, c, d]) 2 = c.toNat % 256 ∧ bAt (strOfNums [a, b, c, d]) 3 = d.toNat % 256 :=
  ⟨bAt_lit (xs := [a, b, c, d]) (by simp), bAt_lit (xs := [a, b, c, d]) (by simp), bAt_lit (xs := [a, b, c, d]) (by simp), bAt_lit (xs := [a, b, c, d]) (by simp)⟩
theorem encC_bytes {x1 x2 x3 x4 x5 p : Int} (h : completionOkB x1 x2 x3 x4 x5 = true) (h0 : 0 ≤ p) (h1 : p ≤ 1) :
    (encC x1 x2 x3 x4 x5 p).size = 16 ∧ ((bAt (encC x1 x2 x3 x4 x5 p) 0 * 256 + bAt (encC x1 x2 x3 x4 x5 p) 1 : Nat) : Int) = x1 ∧
    ((bAt (encC x1 x2 x3 x4 x5 p) 12 * 16777216 + bAt (encC x1 x2 x3 x4 x5 p) 13 * 65536 + bAt (encC x1 x2 x3 x4 x5 p) 14 * 256 + bAt (encC x1 x2 x3 x4 x5 p) 15 : Nat) : Int) = p := by
  obtain ⟨i1, i2, i3, i4, i5⟩ := cok_in h
  have ip : inB p 0 4294967295 = true := inB_iff.2 (by omega)
  have s1 := word16_size i1; have s2 := word16_size i2; have s3 := word16_size i3; have s4 := word16_size i4; have s5 := word32_size i5; have s6 := word32_size ip
  have q1 : word16 x1 = strOfNums [x1 / 256, x1 % 256] := by simp [word16, i1]
  have q6 : word32 p = strOfNums [p / 16777216, p / 65536 % 256, p / 256 % 256, p % 256] := by simp [word32, ip]
  obtain ⟨j1, j2⟩ := inB_iff.1 i1
  have b1 := bAt_str2 (x1 / 256) (x1 % 256)
  have b6 := bAt_str4 (p / 16777216) (p / 65536 % 256) (p / 256 % 256) (p % 256)
  rw [← q1] at b1
  rw [← q6] at b6
  have sz : (word16 x1 ++ word16 x2 ++ word16 x3 ++ word16 x4 ++ word32 x5).size = 12 := by simp only [ByteArray.size_append, s1, s2, s3, s4, s5]
  have lo : ∀ k, k < 2 → bAt (encC x1 x2 x3 x4 x5 p) k = bAt (word16 x1) k := fun k hk => by
    unfold encC
    rw [bAt_append, if_pos (by rw [sz]; omega), bAt_append, if_pos (by simp only [ByteArray.size_append, s1, s2, s3, s4]; omega), bAt_append, if_pos (by simp only [ByteArray.size_append, s1, s2, s3]; omega), bAt_append, if_pos (by simp only [ByteArray.size_append, s1, s2]; omega), bAt_append, if_pos (by rw [s1]; omega)]
  have hi : ∀ k, bAt (encC x1 x2 x3 x4 x5 p) (12 + k) = bAt (word32 p) k := fun k => by
    unfold encC
    rw [bAt_append, sz, if_neg (by omega)]; congr 1; omega
  refine ⟨by unfold encC; rw [ByteArray.size_append, sz, s6], ?_, ?_⟩
  · rw [lo 0 (by omega), lo 1 (by omega), b1.1, b1.2]; omega
  · rw [show (12 : Nat) = 12 + 0 from rfl, hi 0, show (13 : Nat) = 12 + 1 from rfl, hi 1, show (14 : Nat) = 12 + 2 from rfl, hi 2, show (15 : Nat) = 12 + 3 from rfl, hi 3, b6.1, b6.2.1, b6.2.2.1, b6.2.2.2]; omega
theorem qok {s c : Int} (hs : s = 2 ∨ s = 4 ∨ s = 8) (c0 : 0 ≤ c) (c1 : c ≤ 2 * s - 1) : queueOkB 64 s c = true := by
  simp only [queueOkB, sizeB, Bool.and_eq_true, Bool.or_eq_true, beq_iff_eq, inB_iff]
  refine ⟨⟨by omega, by omega⟩, ?_, ?_⟩ <;> omega
theorem put_slot {ps : Pg} (hm : MemOk ps) (hl : ps.length = 5) {s c : Int} (hs : s = 2 ∨ s = 4 ∨ s = 8) (c0 : 0 ≤ c) (c1 : c ≤ 2 * s - 1) {x1 x2 x3 x4 x5 : Int} (hx : completionOkB x1 x2 x3 x4 x5 = true) :
    ∃ qs, putC L5 ps 0 64 s c x1 x2 x3 x4 x5 = (qs, nextC s c, true) ∧ MemOk qs ∧ qs.length = 5 ∧ ∀ j, 0 ≤ j → j ≤ 7 → w16 qs j = (if c % s = j then x1 else w16 ps j) ∧ w32 qs j = if c % s = j then phaseC s c else w32 ps j := by
  obtain ⟨p0, p1⟩ := phaseC_bd s c
  obtain ⟨e0, e1, e2⟩ := encC_bytes hx p0 p1
  have hi : 0 ≤ c % s ∧ c % s ≤ 7 := by rcases hs with rfl | rfl | rfl <;> omega
  obtain ⟨qs, h1, h2, h3, h4⟩ := dmaW_slot hm hl hi.1 hi.2 e0
  refine ⟨qs, ?_, h2, h3, fun j j0 j1 => ?_⟩
  · unfold putC
    rw [qok hs c0 c1, if_pos rfl, hx, if_pos rfl]
    rw [show slotC 64 s c = 64 + 16 * (c % s) from by unfold slotC; omega, h1]
  · unfold w16 w32
    rw [h4 j 0 j0 j1 (by omega), h4 j 1 j0 j1 (by omega), h4 j 12 j0 j1 (by omega), h4 j 13 j0 j1 (by omega), h4 j 14 j0 j1 (by omega), h4 j 15 j0 j1 (by omega)]
    by_cases h : c % s = j
    · simp only [if_pos h]; exact ⟨e1, e2⟩
    · constructor <;> simp only [if_neg h]
theorem next_slot {ps : Pg} (hm : MemOk ps) (hl : ps.length = 5) {s c : Int} (hs : s = 2 ∨ s = 4 ∨ s = 8) (c0 : 0 ≤ c) (c1 : c ≤ 2 * s - 1) :
    ∃ x2 x3 x4 x5, nextF L5 ps 0 64 s c = if w32 ps (c % s) = phaseC s c then ((w16 ps (c % s), x2, x3, x4, x5), nextC s c, true) else ((0, 0, 0, 0, 0), c, false) := by
  have hi : 0 ≤ c % s ∧ c % s ≤ 7 := by rcases hs with rfl | rfl | rfl <;> omega
  obtain ⟨t, h1, h2, h3⟩ := dmaR_slot hm hl hi.1 hi.2
  have g1 : get16 t 0 = w16 ps (c % s) := by
    unfold get16 w16; rw [if_pos (by omega), ← h3 0 (by omega), ← h3 1 (by omega)]; rfl
  have g2 : get32 t 12 = w32 ps (c % s) := by
    unfold get32 w32; rw [if_pos (by omega), ← h3 12 (by omega), ← h3 13 (by omega), ← h3 14 (by omega), ← h3 15 (by omega)]; rfl
  refine ⟨get16 t 2, get16 t 4, get16 t 6, get32 t 8, ?_⟩
  unfold nextF
  rw [qok hs c0 c1, if_pos rfl, show slotC 64 s c = 64 + 16 * (c % s) from by unfold slotC; omega, h1]
  simp only [g1, g2]
/-- What holds of the memory: put entries are written; s slots. -/
def CInv (s : Int) (put : Int) (ps : Pg) : Prop := MemOk ps ∧ ps.length = 5 ∧ (∀ k, 0 ≤ k → k < put → put ≤ k + s → w16 ps (k % s) = k ∧ w32 ps (k % s) = phaseC s (k % (2 * s))) ∧ ∀ i, 0 ≤ i → i < s → put ≤ i → w32 ps i = 0
theorem CInv.put {s p : Int} {ps : Pg} (hs : s = 2 ∨ s = 4 ∨ s = 8) (h : CInv s p ps) (p0 : 0 ≤ p) {x2 x3 x4 x5 : Int} (hx : completionOkB p x2 x3 x4 x5 = true) :
    ∃ qs, putC L5 ps 0 64 s (p % (2 * s)) p x2 x3 x4 x5 = (qs, (p + 1) % (2 * s), true) ∧ CInv s (p + 1) qs := by
  obtain ⟨hm, hl, h1, h2⟩ := h
  have hc : 0 ≤ p % (2 * s) ∧ p % (2 * s) ≤ 2 * s - 1 := by rcases hs with rfl | rfl | rfl <;> omega
  obtain ⟨qs, e, m1, m2, m3⟩ := put_slot hm hl hs hc.1 hc.2 hx
  have hmod : p % (2 * s) % s = p % s := by rcases hs with rfl | rfl | rfl <;> omega
  refine ⟨qs, ?_, m1, m2, fun k k0 k1 k2 => ?_, fun i i0 i1 i2 => ?_⟩
  · rw [e]; unfold nextC; rw [show (p % (2 * s) + 1) % (2 * s) = (p + 1) % (2 * s) from by rcases hs with rfl | rfl | rfl <;> omega]
  · have hk : 0 ≤ k % s ∧ k % s ≤ 7 := by rcases hs with rfl | rfl | rfl <;> omega
    obtain ⟨a1, a2⟩ := m3 (k % s) hk.1 hk.2
    rw [hmod] at a1 a2
    by_cases hkp : k = p
    · subst hkp; rw [a1, a2, if_pos rfl, if_pos rfl]; exact ⟨rfl, rfl⟩
    · have hne : ¬ p % s = k % s := by rcases hs with rfl | rfl | rfl <;> omega
      rw [a1, a2, if_neg hne, if_neg hne]
      exact h1 k k0 (by omega) (by omega)
  · obtain ⟨a1, a2⟩ := m3 i i0 (by omega)
    rw [hmod] at a2
    have hne : ¬ p % s = i := by rcases hs with rfl | rfl | rfl <;> omega
    rw [a2, if_neg hne]
    exact h2 i i0 i1 (by omega)
theorem CInv.next {s p n : Int} {ps : Pg} (hs : s = 2 ∨ s = 4 ∨ s = 8) (h : CInv s p ps) (n0 : 0 ≤ n) (n1 : n ≤ p) (n2 : p - n ≤ s) :
    ∃ x2 x3 x4 x5, nextF L5 ps 0 64 s (n % (2 * s)) = if n < p then ((n, x2, x3, x4, x5), (n + 1) % (2 * s), true) else ((0, 0, 0, 0, 0), n % (2 * s), false) := by
  obtain ⟨hm, hl, h1, h2⟩ := h
  have hc : 0 ≤ n % (2 * s) ∧ n % (2 * s) ≤ 2 * s - 1 := by rcases hs with rfl | rfl | rfl <;> omega
  obtain ⟨x2, x3, x4, x5, e⟩ := next_slot hm hl hs hc.1 hc.2
  have hmod : n % (2 * s) % s = n % s := by rcases hs with rfl | rfl | rfl <;> omega
  refine ⟨x2, x3, x4, x5, ?_⟩
  rw [e, hmod]
  by_cases hn : n < p
  · obtain ⟨a1, a2⟩ := h1 n n0 hn (by omega)
    rw [if_pos a2, if_pos hn, a1]
    unfold nextC
    rw [show (n % (2 * s) + 1) % (2 * s) = (n + 1) % (2 * s) from by rcases hs with rfl | rfl | rfl <;> omega]
  · have hnp : n = p := by omega
    subst hnp
    rw [if_neg hn, if_neg]
    by_cases hps : n < s
    · have : n % s = n := Int.emod_eq_of_lt n0 hps
      rw [this, h2 n n0 hps (by omega)]
      unfold phaseC
      rw [if_pos (by rcases hs with rfl | rfl | rfl <;> omega)]; decide
    · obtain ⟨_, a2⟩ := h1 (n - s) (by omega) (by omega) (by omega)
      have hms : (n - s) % s = n % s := by rcases hs with rfl | rfl | rfl <;> omega
      rw [hms] at a2
      rw [a2]
      unfold phaseC
      rcases hs with rfl | rfl | rfl <;> (split <;> split <;> omega)
end Go.Proofs.Ytelkplponnfkpaa
