/- Part 5 of what the proof of FnDropsCounted rests on: an idealised machine, contracts of functions, and the walk of the law. No condition. -/
import Derived.Test.YtfcmcedeapgdcaaGreatMFnDropsCountedd
section
namespace Go.Proofs.YtfcmcedeapgdcaaGreat
open Go Go.RowKit Go.Vc
set_option linter.unusedVariables false
set_option linter.unusedSimpArgs false
set_option linter.unnecessarySimpa false
theorem encC_get {a b c d e p : Int} (h : completionOkB a b c d e = true) (hp : 0 ≤ p ∧ p ≤ 1) : get16 (encC a b c d e p) 0 = a ∧ get16 (encC a b c d e p) 2 = b ∧ get16 (encC a b c d e p) 4 = c ∧ get16 (encC a b c d e p) 6 = d ∧ get32 (encC a b c d e p) 8 = e ∧ get32 (encC a b c d e p) 12 = p := by
  obtain ⟨h1, h2, h3, h4, h5⟩ := cok_in h
  have h6 : inB p 0 4294967295 = true := inB_iff.2 (by omega)
  have z1 := word16_size h1; have z2 := word16_size h2; have z3 := word16_size h3; have z4 := word16_size h4; have z5 := word32_size h5
  have e0 : encC a b c d e p = word16 a ++ word16 b ++ word16 c ++ word16 d ++ word32 e ++ word32 p := rfl
  refine ⟨g16m (i := 0) (a := ⟨#[]⟩) (r := word16 b ++ (word16 c ++ (word16 d ++ (word32 e ++ word32 p)))) (by rw [e0, ba_empty]; simp only [ByteArray.append_assoc]) h1 rfl,
    g16m (i := 2) (a := word16 a) (r := word16 c ++ (word16 d ++ (word32 e ++ word32 p))) (by rw [e0]; simp only [ByteArray.append_assoc]) h2 z1.symm,
    g16m (i := 4) (a := word16 a ++ word16 b) (r := word16 d ++ (word32 e ++ word32 p)) (by rw [e0]; simp only [ByteArray.append_assoc]) h3 (by simp only [ByteArray.size_append, z1, z2]),
    g16m (i := 6) (a := word16 a ++ word16 b ++ word16 c) (r := word32 e ++ word32 p) (by rw [e0]; simp only [ByteArray.append_assoc]) h4 (by simp only [ByteArray.size_append, z1, z2, z3]),
    g32m (i := 8) (a := word16 a ++ word16 b ++ word16 c ++ word16 d) (r := word32 p) (by rw [e0]) h5 (by simp only [ByteArray.size_append, z1, z2, z3, z4]),
    g32m (i := 12) (a := word16 a ++ word16 b ++ word16 c ++ word16 d ++ word32 e) (r := ⟨#[]⟩) (by rw [e0, ba_append_nil]) h6 (by simp only [ByteArray.size_append, z1, z2, z3, z4, z5])⟩
theorem nx_step {ps : Pg} {h t dc vc : Int} {E : List Int} {c : Dl} {D : List Dl} {fr : List Int} (R : RI ps h t dc vc E (c :: D) fr) : nextF L16 ps 0 128 4 vc = ((c.k, c.n, c.size, c.count, c.hash), nextC 4 vc, true) ∧ RI ps h t dc (nextC 4 vc) E D (fr ++ [c.k]) := by
  have hv := R.cnt
  have htot := R.tot
  have hdc := R.dcq
  simp only [List.length_cons] at htot hdc
  obtain ⟨i1, i2, i3, i4⟩ := R.img c (List.mem_cons_self ..)
  have hsl := R.cmp 0 (by simp)
  have e0 : at' (c :: D) 0 = c := rfl
  rw [e0, show ((0 : Nat) : Int) = 0 from rfl, Int.add_zero, show vc % 8 = vc by omega] at hsl
  have hph := phaseC_bd 4 vc
  obtain ⟨g1, g2, g3, g4, g5, g6⟩ := encC_get i1 hph
  have hsc : slotC 128 4 vc = 128 + vc % 4 * 16 := rfl
  have hd := dmaR_fs (a := slotC 128 4 vc) (n := 16) (L16_t false) R.mem R.len (by rw [hsc]; omega) (by decide) (by decide) (by rw [hsc]; omega)
  rw [hsc, show Int.toNat 16 = 16 from rfl, hsl] at hd
  refine ⟨?_, ?_⟩
  · unfold nextF
    rw [if_pos (q4_ok hv), hsc, hd]
    simp only
    rw [if_pos g6, g1, g2, g3, g4, g5]
  · exact {
      mem := R.mem
      len := R.len
      ring := R.ring
      used := R.used
      sl := R.sl
      cnt := by unfold nextC; omega
      dcq := by unfold nextC; omega
      cmp := fun j hj => by
        have := R.cmp (j + 1) (by simp; exact hj)
        have e1 : at' (c :: D) (j + 1) = at' D j := rfl
        rw [e1] at this
        rw [show (nextC 4 vc + (j : Int)) % 4 = (vc + ((j + 1 : Nat) : Int)) % 4 by unfold nextC; omega, show (nextC 4 vc + (j : Int)) % 8 = (vc + ((j + 1 : Nat) : Int)) % 8 by unfold nextC; omega]
        exact this
      emp := fun j h4 hj4 => by
        rw [show (nextC 4 vc + (j : Int)) % 4 = (vc + ((j + 1 : Nat) : Int)) % 4 by unfold nextC; omega, show (nextC 4 vc + (j : Int)) % 8 = (vc + ((j + 1 : Nat) : Int)) % 8 by unfold nextC; omega]
        by_cases hj3 : j + 1 < 4
        · exact R.emp (j + 1) (by simp; exact h4) hj3
        · have hj : j = 3 := by omega
          subst hj
          rw [show (vc + ((3 + 1 : Nat) : Int)) % 4 = vc % 4 by omega, hsl, g6]
          unfold phaseC
          split <;> split <;> omega
      img := fun x hx => R.img x (List.mem_cons_of_mem _ hx)
      perm := by
        refine pool4_perm ?_ R.perm
        rw [List.append_assoc]
        refine List.Perm.append_left _ ?_
        show (E ++ (c.k :: D.map (·.k))).Perm ([c.k] ++ (E ++ D.map (·.k)))
        exact List.perm_middle
      tot := by rw [List.length_append]; simp only [List.length_cons, List.length_nil]; omega }
theorem nx_end {ps : Pg} {h t dc vc : Int} {E : List Int} {fr : List Int} (R : RI ps h t dc vc E [] fr) : nextF L16 ps 0 128 4 vc = ((0, 0, 0, 0, 0), vc, false) ∧ dc = vc := by
  have hv := R.cnt
  have hdc := R.dcq
  simp only [List.length_nil] at hdc
  have hne := R.emp 0 (Nat.zero_le _) (by decide)
  rw [show ((0 : Nat) : Int) = 0 from rfl, Int.add_zero, show vc % 8 = vc by omega] at hne
  have hsc : slotC 128 4 vc = 128 + vc % 4 * 16 := rfl
  have hd := dmaR_fs (a := slotC 128 4 vc) (n := 16) (L16_t false) R.mem R.len (by rw [hsc]; omega) (by decide) (by decide) (by rw [hsc]; omega)
  rw [hsc, show Int.toNat 16 = 16 from rfl] at hd
  refine ⟨?_, by omega⟩
  unfold nextF
  rw [if_pos (q4_ok hv), hsc, hd]
  simp only
  rw [if_neg hne]
theorem ri_post {ps : Pg} {h t dc vc k : Int} {E : List Int} {D : List Dl} {fr : List Int} (R : RI ps h t dc vc E D (k :: fr)) :
    ∃ qs, rputF L16 ps 0 0 4 h t (encDF 3 0 384 (256 + k * 384) 0 k) = (qs, rnext 4 t, true) ∧ RI qs h (rnext 4 t) dc vc (E ++ [k]) D fr := by
  obtain ⟨hs, b0, b1, s0, s1, h0, h1, t0, t1, u1, u0⟩ := ringOk_facts R.ring
  obtain ⟨bE, bD, bF⟩ := R.bd
  have hk := bF k (List.mem_cons_self ..)
  have hv := R.cnt
  have htot := R.tot
  have hu := R.used
  simp only [List.length_cons] at htot
  have hdo := desc_ok hk
  have hen : encDF 3 0 384 (256 + k * 384) 0 k = encD 3 0 384 (256 + k * 384) 0 k := if_pos hdo
  have hz : (encD 3 0 384 (256 + k * 384) 0 k).size = 16 := encD_size hdo
  have hf : ¬ freeF 0 4 h t = 0 := by
    unfold freeF
    unfold usedF at hu
    rw [R.ring, if_pos rfl]; omega
  have hsl : rslot 0 4 t = t % 4 * 16 := by unfold rslot; omega
  obtain ⟨qs, w1, w2, w3, w4⟩ := dmaW_fb (a := rslot 0 4 t) (s := encD 3 0 384 (256 + k * 384) 0 k) (L16_t true) R.mem R.len (by rw [hsl]; omega) (by omega) (by rw [hsl]; omega)
  rw [hsl] at w4
  have hrp : rputF L16 ps 0 0 4 h t (encDF 3 0 384 (256 + k * 384) 0 k) = (qs, rnext 4 t, true) := by
    unfold rputF
    rw [hen, if_neg hf, if_pos hz, w1]
  have n1 : ringOkB 0 4 h (rnext 4 t) = true := (rputF_t hrp.symm).2
  have htE : t % 4 = (h + E.length) % 4 := by unfold usedF at hu; omega
  have off : ∀ (a : Int) (n : Nat), 0 ≤ a → a + n ≤ 2048 → (a + n ≤ t % 4 * 16 ∨ t % 4 * 16 + 16 ≤ a) → fs 16 qs a n = fs 16 ps a n := fun a n a0 a1 o1 => fs_off w4 a0 (by omega) (by rw [hz]; exact o1)
  have hn : (E ++ [k]).length = E.length + 1 := by simp
  have atO : ∀ j, j < E.length → at' (E ++ [k]) j = at' E j := fun j hj => by rw [atp_eq (by rw [hn]; omega), List.getElem_append_left hj, atp_eq hj]
  have atN : at' (E ++ [k]) E.length = k := by rw [atp_eq (by rw [hn]; omega), List.getElem_append_right (Nat.le_refl _)]; simp
  refine ⟨qs, hrp, ?_⟩
  exact {
    mem := w2
    len := w3
    ring := n1
    used := by rw [hn]; unfold usedF rnext at *; omega
    sl := fun j hj => by
      rw [hn] at hj
      rcases (show j < E.length ∨ j = E.length by omega) with hj | hj
      · rw [atO j hj, ← R.sl j hj]
        exact off _ 16 (by omega) (by omega) (by omega)
      · subst hj
        rw [atN, ← htE]
        have := fs_here w4 (by omega) (by rw [hz]; omega)
        rw [hz] at this
        exact this
    cnt := hv
    dcq := R.dcq
    cmp := fun j hj => by
      rw [← R.cmp j hj]
      exact off _ 16 (by omega) (by omega) (by omega)
    emp := fun j h4 hj4 => by
      have := R.emp j h4 hj4
      rw [off (128 + (vc + j) % 4 * 16) 16 (by omega) (by omega) (by omega)]
      exact this
    img := fun c hc' => by
      obtain ⟨i1, i2, i3, i4⟩ := R.img c hc'
      have hck := bD c hc'
      refine ⟨i1, i2, i3, ?_⟩
      rw [off (256 + c.k * 384) c.im.size (by omega) (by omega) (by omega)]
      exact i4
    perm := by
      refine pool4_perm ?_ R.perm
      show (k :: (fr ++ (E ++ D.map (·.k)))).Perm (fr ++ ((E ++ [k]) ++ D.map (·.k)))
      rw [List.append_assoc E [k]]
      show (k :: (fr ++ (E ++ D.map (·.k)))).Perm (fr ++ (E ++ (k :: D.map (·.k))))
      exact (List.perm_middle (l₁ := fr) (a := k)).symm.trans (List.Perm.append_left fr (List.perm_middle (l₁ := E) (a := k)).symm)
    tot := by rw [hn]; omega }
theorem ri_fill {h dc vc : Int} {D : List Dl} : ∀ (fr : List Int) {ps : Pg} {t : Int} {E : List Int} (n : Nat), RI ps h t dc vc E D fr → ∃ qs t', fillG L16 0 0 4 h 256 384 fr ps t n = (qs, t', n + fr.length) ∧ RI qs h t' dc vc (E ++ fr) D []
  | [], ps, t, E, n, R => ⟨ps, t, rfl, by rw [List.append_nil]; exact R⟩
  | k :: fr, ps, t, E, n, R => by
    obtain ⟨q1, e1, R1⟩ := ri_post R
    obtain ⟨qs, t', e2, R2⟩ := ri_fill fr (n + 1) R1
    refine ⟨qs, t', ?_, by rw [List.append_assoc] at R2; exact R2⟩
    unfold fillG
    rw [e1]
    simp only
    rw [e2, List.length_cons, show n + 1 + fr.length = n + (fr.length + 1) by omega]
theorem ri_fillF {ps : Pg} {h t dc vc : Int} {E : List Int} {D : List Dl} {fr : List Int} (R : RI ps h t dc vc E D fr) : ∃ qs t', fillRF L16 ps 0 0 4 h t 256 384 4 fr = (qs, t', [], fr.length) ∧ RI qs h t' dc vc (E ++ fr) D [] := by
  obtain ⟨qs, t', e, R2⟩ := ri_fill fr 0 R
  have hp : poolB 256 384 4 fr = true := by
    have := pool4_iff.1 R.perm
    exact pool4_iff.2 ⟨fun k hk => this.1 k (List.mem_append_left _ hk), (List.pairwise_append.1 this.2).1⟩
  refine ⟨qs, t', ?_, R2⟩
  unfold fillRF
  rw [R.ring, hp, e]
  simp
end Go.Proofs.YtfcmcedeapgdcaaGreat
end
section
namespace Go.Proofs.YtfcmcedeapgdcaaGreat
open Go Go.RowKit Go.Vc
set_option linter.unusedVariables false
set_option linter.unusedSimpArgs false
set_option linter.unnecessarySimpa false
abbrev ps16 : Pg := List.replicate 16 page0
theorem ps16_ok : MemOk ps16 := ⟨by simp [ps16], fun i h => by show (List.replicate 16 page0)[i].size = 128; rw [List.getElem_replicate]; exact page0_sz⟩
theorem fb_ps16 {x : Int} (h0 : 0 ≤ x) (h1 : x < 2048) : fb 16 ps16 x = 0 := by
  unfold fb pageAt
  rw [List.getD_eq_getElem?_getD, List.getElem?_replicate, if_pos (by omega)]
  exact page0_at _
theorem ring4_0 {k : Int} (h : 0 ≤ k ∧ k ≤ 7) : ringOkB 0 4 k k = true := by
  simp only [ringOkB, Bool.and_eq_true, inB_iff, decide_eq_true_eq]
  refine ⟨⟨⟨⟨⟨by omega, by omega⟩, by rfl⟩, by omega, by omega⟩, by omega, by omega⟩, ?_⟩
  rw [Int.sub_self, Int.zero_emod]; omega
theorem ri_0 {k : Int} (h : 0 ≤ k ∧ k ≤ 7) : RI ps16 k k 0 0 [] [] [0, 1, 2, 3] where
  mem := ps16_ok
  len := by simp [ps16]
  ring := ring4_0 h
  used := (ring_tt (ring4_0 h)).2
  sl := fun j hj => nomatch hj
  cnt := by decide
  dcq := rfl
  cmp := fun j hj => nomatch hj
  emp := fun j _ hj => by
    have e : get32 (fs 16 ps16 (128 + (0 + (j : Int)) % 4 * 16) 16) 12 = 0 := by
      have hz := fs_size 16 ps16 (128 + (0 + (j : Int)) % 4 * 16) 16
      have hb : ∀ i : Nat, i < 16 → bAt (fs 16 ps16 (128 + (0 + (j : Int)) % 4 * 16) 16) i = 0 := fun i hi => by rw [fs_at hi, fb_ps16 (by omega) (by omega)]
      have := get32_at (s := fs 16 ps16 (128 + (0 + (j : Int)) % 4 * 16) 16) (i := 12) (by omega)
      rw [hb 12 (by decide), hb 13 (by decide), hb 14 (by decide), hb 15 (by decide)] at this
      exact this
    rw [e]
    unfold phaseC
    rw [if_pos (by omega)]; decide
  img := fun c hc => nomatch hc
  perm := by decide
  tot := rfl
def rx0 (k t : Int) : Rx := ⟨0, 4, k, t, 128, 4, 0, 128, 4, 0, 0, 0, 0, 0, 0, 0, 0, 0, 0, 0, 0, 0, 0, 0, 0, ⟨#[]⟩, 0, 0, false, 0⟩
theorem rx0_at (k t : Int) : (rx0 k t).at k t 0 0 := ⟨rfl, rfl, rfl, rfl, rfl, rfl, rfl, rfl, rfl, rfl⟩
theorem rx0_hb (k t : Int) : (rx0 k t).hb := by
  show noHeld 0 0 0 0 0 0 0 0 0 0 0 0 0 0 0 ⟨#[]⟩ 0 0 = true
  decide
theorem start_fill {k : Int} (h : 0 ≤ k ∧ k ≤ 7) : ∃ qs t', fillRF L16 ps16 0 0 4 k k 256 384 4 [0, 1, 2, 3] = (qs, t', [], 4) ∧ RI qs k t' 0 0 [0, 1, 2, 3] [] [] := by
  obtain ⟨qs, t', e, R⟩ := ri_fillF (ri_0 h)
  exact ⟨qs, t', e, by rw [List.nil_append] at R; exact R⟩
end Go.Proofs.YtfcmcedeapgdcaaGreat
end
section
namespace Go.Proofs.YtfcmcedeapgdcaaGreat
open Go Go.RowKit Go.Vc
set_option linter.unusedVariables false
set_option linter.unusedSimpArgs false
set_option linter.unnecessarySimpa false
def Rd (D : List Dl) : Prop := ∀ c ∈ D, rdC c.im = 0
def delD (D : List Dl) (sm : List Sm) : List Sm := D.foldl (fun s c => dlF s (rdF c.im)) sm
end Go.Proofs.YtfcmcedeapgdcaaGreat
end
section
namespace Go.Proofs.YtfcmcedeapgdcaaGreat
open Go Go.RowKit Go.Vc
set_option linter.unusedVariables false
set_option linter.unusedSimpArgs false
set_option linter.unnecessarySimpa false
theorem smIdxF_set {kind si di sp dp : Int} {s' : Sm} : ∀ (l : List Sm) (n i : Nat), (∀ h : i < l.length, smHit s' kind si di sp dp = smHit l[i] kind si di sp dp) → smIdxF kind si di sp dp n (l.set i s') = smIdxF kind si di sp dp n l
  | [], n, i, _ => rfl
  | s :: l, n, 0, h => by
    have := h (by simp)
    simp only [List.set_cons_zero, smIdxF]
    simp only [List.getElem_cons_zero] at this
    rw [this]
  | s :: l, n, i + 1, h => by
    simp only [List.set_cons_succ, smIdxF]
    rw [smIdxF_set l (n + 1) i fun hi => by have := h (by simpa using hi); simpa using this]
theorem ix_set {p : Pk} {l : List Sm} {i : Nat} {s' : Sm} (hi : i < l.length) (h1 : s'.kind = (at' l i).kind) (h2 : s'.si = (at' l i).si) (h3 : s'.di = (at' l i).di) (h4 : s'.sp = (at' l i).sp) (h5 : s'.dp = (at' l i).dp) : p.ix (l.set i s') = p.ix l := by
  unfold Pk.ix smIdx
  refine smIdxF_set l 0 i fun hi => ?_
  rw [atp_eq hi] at h1 h2 h3 h4 h5
  unfold smHit
  rw [h1, h2, h3, h4, h5]
theorem ext_app2 (a b : ByteArray) {o : Nat} (h : o ≤ a.size) : (a ++ b).extract o (a ++ b).size = a.extract o a.size ++ b := by
  refine ba_ext (by simp only [ByteArray.size_append, ByteArray.size_extract]; omega) fun i hi => ?_
  simp only [ByteArray.size_extract, ByteArray.size_append] at hi
  rw [bAt_extract, if_pos (by rw [ByteArray.size_append]; omega), bAt_append, bAt_append, ByteArray.size_extract]
  by_cases hc : o + i < a.size
  · rw [if_pos hc, if_pos (by omega), bAt_extract, if_pos (by omega)]
  · rw [if_neg hc, if_neg (by omega)]
    congr 1; omega
theorem ext_app3 (a b : ByteArray) {o : Nat} (h : a.size ≤ o) : (a ++ b).extract o (a ++ b).size = b.extract (o - a.size) b.size := by
  refine ba_ext (by simp only [ByteArray.size_append, ByteArray.size_extract]; omega) fun i hi => ?_
  simp only [ByteArray.size_extract, ByteArray.size_append] at hi
  rw [bAt_extract, if_pos (by rw [ByteArray.size_append]; omega), bAt_append, if_neg (by omega), bAt_extract, if_pos (by omega)]
  congr 1; omega
theorem dl_seg {l : List Sm} {p : Pk} (hs : p.sup = true) (hk : p.kind = 6) (hf : streamB p.fl = true) : dlF l p = if p.ix l < 0 ∨ (at' l (p.ix l).toNat).done = true then l else if dlO (at' l (p.ix l).toNat) p ≤ p.body.size then l.set (p.ix l).toNat (dlS (at' l (p.ix l).toNat) p) else l := by
  have h24 : andI p.fl 2 = 0 ∧ andI p.fl 4 = 0 := by
    unfold streamB at hf
    simp only [Bool.or_eq_true, beq_iff_eq] at hf
    rcases hf with ((h | h) | h) | h <;> rw [h] <;> decide
  unfold dlF
  rw [if_pos hs, if_neg (by rw [hk]; decide), if_neg (by rw [h24.1]; simp)]
  by_cases hc : p.ix l < 0 ∨ (at' l (p.ix l).toNat).done = true
  · rw [if_pos hc, if_pos (by rcases hc with h | h; exact .inl h; exact .inr (.inl h))]
  · rw [if_neg hc, if_neg]
    rintro (h | h | h)
    · exact hc (.inl h)
    · exact hc (.inr h)
    · exact h h24.2
end Go.Proofs.YtfcmcedeapgdcaaGreat
end
section
namespace Go.Proofs.YtfcmcedeapgdcaaGreat
open Go Go.RowKit Go.Vc
set_option linter.unusedVariables false
set_option linter.unusedSimpArgs false
set_option linter.unnecessarySimpa false
def jn (a b : Pk) : Pk := { a with fl := b.fl, body := a.body ++ b.body }
structure Jn (a b : Pk) : Prop where
  sa : a.sup = true
  sb : b.sup = true
  sj : (jn a b).sup = true
  ka : a.kind = 6
  fa : a.fl = 16
  fb : streamB b.fl = true
  kb : b.kind = a.kind
  si : b.si = a.si
  di : b.di = a.di
  sp : b.sp = a.sp
  dp : b.dp = a.dp
  seq : b.seq = (a.seq + a.body.size) % 4294967296
theorem dl_join {a b : Pk} (J : Jn a b) (l : List Sm) : dlF l (jn a b) = dlF (dlF l a) b := by
  have hib : ∀ l : List Sm, b.ix l = a.ix l := fun l => by unfold Pk.ix; rw [J.kb, J.si, J.di, J.sp, J.dp]
  have hij : (jn a b).ix l = a.ix l := rfl
  have f16 : streamB a.fl = true := by rw [J.fa]; decide
  rw [dl_seg J.sj J.ka J.fb, dl_seg J.sa J.ka f16, hij]
  by_cases hc : a.ix l < 0 ∨ (at' l (a.ix l).toNat).done = true
  · rw [if_pos hc, if_pos hc, dl_seg J.sb (J.kb.trans J.ka) J.fb, hib, if_pos hc]
  · rw [if_neg hc, if_neg hc]
    obtain ⟨i, hi, e⟩ := smIdx_ge (l := l) (fun h => hc (.inl h))
    have e : a.ix l = (i : Int) := e
    have e2 : (a.ix l).toNat = i := by omega
    have hnd : ¬ (at' l i).done = true := fun h => hc (.inr (by rw [e2]; exact h))
    rw [e2]
    clear hc
    generalize hs : at' l i = s at *
    have hos : dlO s (jn a b) = dlO s a := rfl
    have hjs : ((jn a b).body.size : Int) = (a.body.size : Int) + b.body.size := by
      show ((a.body ++ b.body).size : Int) = _
      rw [ByteArray.size_append]; omega
    have h0 : 0 ≤ dlO s a ∧ dlO s a < 4294967296 := by unfold dlO; omega
    by_cases ho : dlO s a ≤ a.body.size
    · rw [if_pos ho, if_pos (by rw [hos, hjs]; omega), dl_seg J.sb (J.kb.trans J.ka) J.fb, hib, ix_set (by exact hi) (by rw [hs]; rfl) (by rw [hs]; rfl) (by rw [hs]; rfl) (by rw [hs]; rfl) (by rw [hs]; rfl), e2]
      have hat : at' (l.set i (dlS s a)) i = dlS s a := by rw [atp_eq (by rw [List.length_set]; exact hi), List.getElem_set_self]
      have hdn : (dlS s a).done = false := by
        show (!decide (andI a.fl 1 = 0)) = false
        rw [J.fa]; decide
      have hob : dlO (dlS s a) b = 0 := by
        show ((s.next + a.body.size - dlO s a) % 4294967296 - b.seq) % 4294967296 = 0
        rw [J.seq]
        unfold dlO at *
        omega
      rw [hat, if_neg (by rw [hdn]; rintro (h | h); omega; cases h), if_pos (by rw [hob]; omega), List.set_set]
      congr 1
      have d1 : (s.data ++ a.body.extract (dlO s a).toNat a.body.size) ++ b.body.extract (0 : Int).toNat b.body.size = s.data ++ (a.body ++ b.body).extract (dlO s a).toNat (a.body ++ b.body).size := by
        rw [ext_app2 _ _ (by omega), show (0 : Int).toNat = 0 from rfl, ByteArray.extract_zero_size, ByteArray.append_assoc]
      have d2 : ((s.next + a.body.size - dlO s a) % 4294967296 + b.body.size - 0) % 4294967296 = (s.next + ((a.body ++ b.body).size : Nat) - dlO s a) % 4294967296 := by
        rw [ByteArray.size_append]; omega
      show dlS s (jn a b) = dlS (dlS s a) b
      unfold dlS at hob ⊢
      rw [hob]
      simp only
      rw [d1, d2]
      rfl
    · have hcn : ¬ (a.ix l < 0 ∨ s.done = true) := by
        rintro (h | h)
        · omega
        · exact hnd h
      rw [if_neg ho, dl_seg J.sb (J.kb.trans J.ka) J.fb, hib, e2, hs, if_neg hcn]
      have hob : dlO s b = dlO s a - a.body.size := by
        unfold dlO at *
        rw [J.seq]; omega
      by_cases hb : dlO s b ≤ b.body.size
      · rw [if_pos hb, if_pos (by rw [hos, hjs]; omega)]
        congr 1
        have d1 : (a.body ++ b.body).extract (dlO s a).toNat (a.body ++ b.body).size = b.body.extract (dlO s b).toNat b.body.size := by
          rw [ext_app3 _ _ (by omega), hob]
          congr 1; omega
        have d2 : (s.next + ((a.body ++ b.body).size : Nat) - dlO s a) % 4294967296 = (s.next + b.body.size - dlO s b) % 4294967296 := by
          rw [ByteArray.size_append, hob]; congr 1; omega
        unfold dlS
        rw [hos]
        show ({ s with data := s.data ++ (a.body ++ b.body).extract (dlO s a).toNat (a.body ++ b.body).size, next := (s.next + ((a.body ++ b.body).size : Nat) - dlO s a) % 4294967296, done := !decide (andI b.fl 1 = 0) } : Sm) = _
        rw [d1, d2]
      · rw [if_neg hb, if_neg (by rw [hos, hjs]; omega)]
end Go.Proofs.YtfcmcedeapgdcaaGreat
end
section
namespace Go.Proofs.YtfcmcedeapgdcaaGreat
open Go Go.RowKit Go.Vc
set_option linter.unusedVariables false
set_option linter.unusedSimpArgs false
set_option linter.unnecessarySimpa false
def pend (D : List Dl) (q : Rx) (sm : List Sm) : List Sm := if q.hold then dlF (delD D sm) q.hp else delD D sm
theorem delD_app (D : List Dl) (c : Dl) (sm : List Sm) : delD (D ++ [c]) sm = dlF (delD D sm) (rdF c.im) := by unfold delD; rw [List.foldl_append]; rfl
theorem Rd.drop {D : List Dl} (h : Rd D) (f : Nat) : Rd (D.drop f) := fun c hc => h c (List.mem_of_mem_drop hc)
theorem cj_jn {q : Rx} {p : Pk} (h : q.held) (hj : q.cj p = true) : Jn q.hp p := by
  have hs := (join_held h hj).sup
  unfold Rx.cj cjB at hj
  simp only [Bool.and_eq_true, decide_eq_true_eq, inB_iff] at hj
  obtain ⟨j1, ⟨j2, j2b⟩, j3, j4, j5, j6, j7, j8, j9, j10, j11, j12, j13⟩ := hj
  unfold samB at j3
  simp only [Bool.and_eq_true, decide_eq_true_eq] at j3
  exact { sa := h.sup, sb := j2, sj := hs, ka := show q.kind = 6 by omega, fa := j5, fb := j6, kb := show p.kind = q.kind by omega, si := show p.si = q.si by omega, di := show p.di = q.di by omega, sp := show p.sp = q.sp by omega, dp := show p.dp = q.dp by omega, seq := j12 }
theorem fl_all {ps : Pg} {h t dc vc : Int} {E : List Int} {D : List Dl} {fr : List Int} {q : Rx} {key : ByteArray} (R : RI ps h t dc vc E D fr) (A : q.at h t dc vc) (hk : key.size = 16) (hd : 0 ≤ q.dropped ∧ q.dropped ≤ 1000000000000) (hb : q.hb) (hrd : Rd D) :
    ∃ h' dc' E' D', RI (fhF L16 ps 0 q key).1 h' t dc' vc E' D' fr ∧ (fhF L16 ps 0 q key).2.at h' t dc' vc ∧ (fhF L16 ps 0 q key).2.hb ∧ (fhF L16 ps 0 q key).2.hold = false ∧ sumC D' + (fhF L16 ps 0 q key).2.dropped = sumC D + q.dropped + q.hc ∧ q.dropped ≤ (fhF L16 ps 0 q key).2.dropped ∧ (fhF L16 ps 0 q key).2.dropped ≤ q.dropped + 320 ∧ Rd D' ∧ ((fhF L16 ps 0 q key).2.dropped = q.dropped → ∀ sm, delD D' sm = pend D q sm) := by
  cases hh : q.hold with
  | false =>
    have hfo : q.fo key = false := by
      show (q.ok && (q.hold && _)) = false
      rw [hh]; simp
    rw [fhq_no hfo]
    refine ⟨h, dc, E, D, R, A, hb, hh, ?_, Int.le_refl _, by simp only; omega, hrd, fun _ sm => ?_⟩
    · unfold Rx.hc
      rw [hh, if_neg (by decide)]; simp only; omega
    · unfold pend; rw [hh]; rfl
  | true =>
    have hl : q.held := by unfold Rx.hb at hb; rw [hh] at hb; exact hb
    obtain ⟨qs, h', dc', E', D', x, e, R', A', hx⟩ := fh_step R A hk hd hh hl
    rw [e]
    have hc := hl.count
    have ehc : q.hc = q.count := by unfold Rx.hc; rw [hh, if_pos rfl]
    have hdr : (q.emp h' dc' (q.dropped + x)).dropped = q.dropped + x := rfl
    obtain ⟨r1, r2⟩ := rd_im hl.sup
    refine ⟨h', dc', E', D', R', A', emp_hb .., rfl, ?_, ?_, ?_, ?_, ?_⟩ <;> (try simp only) <;> (try rw [hdr]) <;> rcases hx with ⟨_, _, rfl, rfl⟩ | ⟨k, z, _, rfl, rfl⟩
    · rw [ehc]; omega
    · rw [sumC_app, ehc]; simp only; omega
    · omega
    · omega
    · omega
    · omega
    · exact hrd
    · intro c hc'
      rcases List.mem_append.1 hc' with h | h
      · exact hrd c h
      · rw [List.mem_singleton.1 h]; exact r1
    · intro hx; omega
    · intro _ sm
      rw [delD_app]
      unfold pend
      rw [hh, if_pos rfl]
      simp only
      rw [r2]
theorem rp_all {ps : Pg} {h t dc vc : Int} {E : List Int} {D : List Dl} {fr : List Int} {q : Rx} {key : ByteArray} (R : RI ps h t dc vc E D fr) (A : q.at h t dc vc) (hk : key.size = 16) (hd : 0 ≤ q.dropped ∧ q.dropped ≤ 999999990000) (hb : q.hb) (hrd : Rd D) {p : Pk} (hp : p.ok = true) (coal : Bool) :
    ∃ h' dc' E' D', RI (rp ps q key p coal).1 h' t dc' vc E' D' fr ∧ (rp ps q key p coal).2.at h' t dc' vc ∧ (rp ps q key p coal).2.hb ∧ sumC D' + (rp ps q key p coal).2.dropped + (rp ps q key p coal).2.hc = sumC D + q.dropped + q.hc + 1 ∧ q.dropped ≤ (rp ps q key p coal).2.dropped ∧ (rp ps q key p coal).2.dropped ≤ q.dropped + 640 ∧ Rd D' ∧ ((rp ps q key p coal).2.dropped = q.dropped → ∀ sm, pend D' (rp ps q key p coal).2 sm = dlF (pend D q sm) p) := by
  have hok := rx_ok R A (by omega) hb
  obtain ⟨h1, dc1, E1, D1, R1, A1, B1, H1, T1, L1, U1, Z1, P1⟩ := fl_all (key := key) R A hk (by omega) hb hrd
  generalize hr1 : fhF L16 ps 0 q key = r1 at *
  have A2 : (r1.2.take p).at h1 t dc1 vc := ⟨A1.rb, A1.rs, A1.rh, A1.rt, A1.db, A1.ds, A1.dc', A1.vb, A1.vs, A1.vc'⟩
  have B2 : (r1.2.take p).hb := take_held _ hp
  have d2 : (r1.2.take p).dropped = r1.2.dropped := rfl
  have c2 : (r1.2.take p).hc = 1 := rfl
  have p2 : ∀ D sm, pend D (r1.2.take p) sm = dlF (delD D sm) p := fun D sm => rfl
  cases hc : coal with
  | true =>
    cases hj : q.hold && q.cj p with
    | true =>
      rw [Bool.and_eq_true] at hj
      rw [rp_j hok hp hk rfl hj.1 hj.2]
      have hl : q.held := by unfold Rx.hb at hb; rw [hj.1] at hb; exact hb
      have e1 : (q.join p).hold = true := hj.1
      have e2 : (q.join p).hc = q.count + 1 := hold_true e1
      have e3 := hold_true hj.1
      have e4 : (q.join p).dropped = q.dropped := rfl
      refine ⟨h, dc, E, D, R, ⟨A.rb, A.rs, A.rh, A.rt, A.db, A.ds, A.dc', A.vb, A.vs, A.vc'⟩, ?_, ?_, ?_, ?_, hrd, fun _ sm => ?_⟩
      · unfold Rx.hb
        rw [e1]
        exact join_held hl hj.2
      · simp only; rw [e2, e3, e4]; omega
      · exact Int.le_of_eq e4.symm
      · simp only; rw [e4]; omega
      · have e5 : (q.join p).hp = jn q.hp p := rfl
        show pend D (q.join p) sm = _
        unfold pend
        rw [e1, hj.1, if_pos rfl, if_pos rfl, e5, dl_join (cj_jn hl hj.2)]
    | false =>
      rw [rp_1 hr1 hok hp hk rfl hj]
      refine ⟨h1, dc1, E1, D1, R1, A2, B2, ?_, ?_, ?_, Z1, fun hx sm => ?_⟩
      · simp only; rw [d2, c2]; omega
      · simp only; rw [d2]; exact L1
      · simp only; rw [d2]; omega
      · show pend D1 (r1.2.take p) sm = _
        rw [p2, P1 hx]
  | false =>
    rw [rp_2 hr1 hok hp hk rfl]
    obtain ⟨h2, dc2, E2, D2, R3, A3, B3, H3, T3, L3, U3, Z3, P3⟩ := fl_all (key := key) R1 A2 hk (by rw [d2]; omega) B2 Z1
    rw [d2] at T3 L3 U3 P3
    rw [c2] at T3
    refine ⟨h2, dc2, E2, D2, R3, A3, B3, ?_, by omega, by omega, Z3, fun hx sm => ?_⟩
    · rw [hold_false H3]; omega
    · have e1 := P3 (by omega) sm
      have e2 := P1 (by omega) sm
      have e3 : pend D2 (fhF L16 r1.1 0 (r1.2.take p) key).2 sm = delD D2 sm := by unfold pend; rw [H3]; rfl
      rw [e3, e1, p2, e2]
end Go.Proofs.YtfcmcedeapgdcaaGreat
end
section
namespace Go.Proofs.YtfcmcedeapgdcaaGreat
open Go Go.RowKit Go.Vc
set_option linter.unusedVariables false
set_option linter.unusedSimpArgs false
set_option linter.unnecessarySimpa false
structure DRx where
  (k t : Int)
  (ps : Pg)
  (key : ByteArray)
  (pk : List Pk)
  (sm : List Sm)
structure DRx.ok (x : DRx) : Prop where
  ri : RI x.ps x.k x.t 0 0 [0, 1, 2, 3] [] []
  key : x.key.size = 16
  len : 1 ≤ x.pk.length ∧ x.pk.length ≤ 8
  pk : ∀ p ∈ x.pk, p.ok = true
  sml : x.sm.length ≤ 8
  sms : ∀ s ∈ x.sm, s.data.size ≤ 0
structure RS where
  (k : Nat)
  (ps : Pg)
  (q : Rx)
  (h t dc vc : Int)
  (E : List Int)
  (D : List Dl)
  (fr : List Int)
structure RS.ok (S : RS) : Prop where
  ri : RI S.ps S.h S.t S.dc S.vc S.E S.D S.fr
  at' : S.q.at S.h S.t S.dc S.vc
  hb : S.q.hb
  rd : Rd S.D
  d0 : 0 ≤ S.q.dropped
  d1 : S.q.dropped ≤ 640 * S.k + 640
def RS.go (S : RS) (r : Pg × Rx) (h dc : Int) (E : List Int) (D : List Dl) : RS := ⟨S.k + 1, r.1, r.2, h, S.t, dc, S.vc, E, D, S.fr⟩
def RS.s0 (x : DRx) : RS := ⟨0, x.ps, rx0 x.k x.t, x.k, x.t, 0, 0, [0, 1, 2, 3], [], []⟩
theorem RS.len {S : RS} (H : S.ok) : S.ps.length = 16 ∧ S.fr.length + (S.E.length + S.D.length) = 4 := ⟨H.ri.len, H.ri.tot⟩
theorem rs_0 {x : DRx} (h : x.ok) : (RS.s0 x).ok := ⟨h.ri, rx0_at _ _, rx0_hb _ _, (fun c hc => nomatch hc), Int.le_refl _, by show (0 : Int) ≤ _; omega⟩
theorem rs_0s (x : DRx) : sumC (RS.s0 x).D + (RS.s0 x).q.dropped + (RS.s0 x).q.hc = 0 := rfl
theorem dr_pk {x : DRx} (h : x.ok) {k : Nat} (hk : k < x.pk.length) : (at' x.pk k).ok = true ∧ (at' x.pk k).body.size ≤ 128 := by
  have h1 := h.pk _ (atp_mem hk)
  refine ⟨h1, ?_⟩
  unfold Pk.ok at h1
  rw [Bool.and_eq_true, decide_eq_true_eq] at h1
  exact h1.2
theorem rs_rp {S : RS} (H : S.ok) (hk : S.k ≤ 1000) {key : ByteArray} (hz : key.size = 16) {p : Pk} (hp : p.ok = true) {coal : Bool} {r : Pg × Rx} (hr : rp S.ps S.q key p coal = r) :
    ∃ h' dc' E' D', (S.go r h' dc' E' D').ok ∧ sumC D' + r.2.dropped + r.2.hc = sumC S.D + S.q.dropped + S.q.hc + 1 ∧ S.q.dropped ≤ r.2.dropped ∧ (r.2.dropped = S.q.dropped → ∀ sm, pend D' r.2 sm = dlF (pend S.D S.q sm) p) := by
  have h0 := H.d0
  have h1 := H.d1
  subst hr
  obtain ⟨h', dc', E', D', a1, a2, a3, a4, a5, a6, a7, a8⟩ := rp_all H.ri H.at' hz ⟨h0, by omega⟩ H.hb H.rd hp coal
  exact ⟨h', dc', E', D', ⟨a1, a2, a3, a7, Int.le_trans h0 a5, by show _ ≤ 640 * ((S.k + 1 : Nat) : Int) + 640; exact Int.le_trans a6 (by omega)⟩, a4, a5, a8⟩
theorem rs_fl {S : RS} (H : S.ok) (hk : S.k ≤ 1000) {key : ByteArray} (hz : key.size = 16) {r : Pg × Rx} (hr : fhF L16 S.ps 0 S.q key = r) :
    ∃ h' dc' E' D', (S.go r h' dc' E' D').ok ∧ r.2.hold = false ∧ sumC D' + r.2.dropped = sumC S.D + S.q.dropped + S.q.hc ∧ S.q.dropped ≤ r.2.dropped ∧ (r.2.dropped = S.q.dropped → ∀ sm, delD D' sm = pend S.D S.q sm) := by
  have h0 := H.d0
  have h1 := H.d1
  subst hr
  obtain ⟨h', dc', E', D', a1, a2, a3, a4, a5, a6, a7, a8, a9⟩ := fl_all H.ri H.at' hz ⟨h0, by omega⟩ H.hb H.rd
  exact ⟨h', dc', E', D', ⟨a1, a2, a3, a8, Int.le_trans h0 a6, by show _ ≤ 640 * ((S.k + 1 : Nat) : Int) + 640; exact Int.le_trans a7 (by omega)⟩, a4, a5, a6, a9⟩
theorem rs_ok {S : RS} (H : S.ok) (hk : S.k ≤ 1000) : rxOkB S.q.rb S.q.rs S.q.rh S.q.rt S.q.db S.q.ds S.q.dc S.q.vb S.q.vs S.q.vc S.q.dm S.q.sm S.q.vl S.q.tos S.q.id S.q.ttl S.q.si S.q.di S.q.kind S.q.sp S.q.dp S.q.seq S.q.ack S.q.fl S.q.win S.q.body S.q.size S.q.count S.q.hold S.q.dropped = true := by
  have h0 := H.d0
  have h1 := H.d1
  exact rx_ok H.ri H.at' ⟨h0, by omega⟩ H.hb
theorem rs_bd {S : RS} (H : S.ok) : (0 ≤ S.q.dc ∧ S.q.dc ≤ 7) ∧ (0 ≤ S.q.vc ∧ S.q.vc ≤ 7) ∧ S.q.ds = 4 ∧ sizeB S.q.rs = true := by
  have h1 := H.ri.dcq
  have h2 := H.ri.cnt
  have h3 := H.ri.tot
  rw [H.at'.dc', H.at'.vc', H.at'.ds, H.at'.rs]
  exact ⟨by omega, by omega, rfl, rfl⟩
def RS.next (S : RS) (vc : Int) (D : List Dl) (fr : List Int) : RS := ⟨S.k, S.ps, ⟨S.q.rb, S.q.rs, S.q.rh, S.q.rt, S.q.db, S.q.ds, S.q.dc, S.q.vb, S.q.vs, vc, S.q.dm, S.q.sm, S.q.vl, S.q.tos, S.q.id, S.q.ttl, S.q.si, S.q.di, S.q.kind, S.q.sp, S.q.dp, S.q.seq, S.q.ack, S.q.fl, S.q.win, S.q.body, S.q.size, S.q.count, S.q.hold, S.q.dropped⟩, S.h, S.t, S.dc, vc, S.E, D, fr⟩
structure CL (ps : Pg) (h t dc vc : Int) (E : List Int) (D : List Dl) (fr : List Int) (tot sum : Int) (k : Nat) : Prop where
  ri : RI ps h t dc vc E D fr
  sm : sum + sumC D = tot
  kd : k + D.length ≤ 4
  bd : 0 ≤ sum ∧ sum ≤ 100000 + 65535 * k
theorem sumC_cons (c : Dl) (D : List Dl) : sumC (c :: D) = c.count + sumC D := by unfold sumC; simp
structure CS where
  (k : Nat)
  (sum vc : Int)
  (D : List Dl)
  (fr : List Int)
theorem cl_y {ps : Pg} {h t dc vc : Int} {E : List Int} {D : List Dl} {fr : List Int} {tot sum : Int} {k : Nat} (C : CL ps h t dc vc E D fr tot sum k) {X : Comp × Int × Bool} (hX : nextF L16 ps 0 128 4 vc = X) (hy : X.2.2 = true) : ∃ D' fr', CL ps h t dc X.2.1 E D' fr' tot (sum + X.1.2.2.2.1) (k + 1) := by
  subst hX
  cases D with
  | nil => rw [(nx_end C.ri).1] at hy; cases hy
  | cons c D =>
    obtain ⟨e, R⟩ := nx_step C.ri
    rw [e]
    have h1 := C.sm
    rw [sumC_cons] at h1
    have h2 := C.kd
    rw [List.length_cons] at h2
    have h3 := C.bd
    have h4 := (C.ri.img c (List.mem_cons_self ..)).1
    unfold completionOkB at h4
    simp only [Bool.and_eq_true, inB_iff] at h4
    exact ⟨D, _, R, by show sum + c.count + sumC D = tot; omega, by omega, by show 0 ≤ sum + c.count ∧ sum + c.count ≤ _; omega⟩
theorem cl_bd2 {ps : Pg} {h t dc vc : Int} {E : List Int} {D : List Dl} {fr : List Int} {tot sum : Int} {k : Nat} (C : CL ps h t dc vc E D fr tot sum k) {X : Comp × Int × Bool} (hX : nextF L16 ps 0 128 4 vc = X) (hy : X.2.2 = true) : 0 ≤ sum + X.1.2.2.2.1 ∧ sum + X.1.2.2.2.1 ≤ 1000000 := by
  obtain ⟨D', fr', C'⟩ := cl_y C hX hy
  have h1 := C'.bd
  have h2 := C'.kd
  omega
theorem cl_n {ps : Pg} {h t dc vc : Int} {E : List Int} {D : List Dl} {fr : List Int} {tot sum : Int} {k : Nat} (C : CL ps h t dc vc E D fr tot sum k) {X : Comp × Int × Bool} (hX : nextF L16 ps 0 128 4 vc = X) (hy : X.2.2 = false) : sum = tot ∧ dc = vc := by
  subst hX
  cases D with
  | nil => exact ⟨by have h1 := C.sm; rw [show sumC [] = 0 from rfl] at h1; omega, (nx_end C.ri).2⟩
  | cons c D => rw [(nx_step C.ri).1] at hy; cases hy
theorem cl_0 {S : RS} (H : S.ok) (hk : S.k ≤ 100) {tot : Int} (h : sumC S.D + S.q.dropped = tot) : CL S.ps S.h S.t S.dc S.vc S.E S.D S.fr tot S.q.dropped 0 :=
  ⟨H.ri, by omega, by have := H.ri.tot; omega, by have := H.d0; have := H.d1; omega⟩
end Go.Proofs.YtfcmcedeapgdcaaGreat
end
section
namespace Go.Proofs.YtfcmcedeapgdcaaGreat
open Go Go.RowKit Go.Vc
set_option linter.unusedVariables false
set_option linter.unusedSimpArgs false
set_option linter.unnecessarySimpa false
set_option maxHeartbeats 4000000 in
theorem c_spec_l10Open {b : Nat} {v : Value} {code : List UInt8} {xl : List Pk} (hL : xl.length ≤ 1000 := by omega) : ConD Tryz.prog 27 112 b v code 35 16 (xl.map pkE) (α := List Sm) (fun m => m.length ≤ xl.length ∧ ∀ s ∈ m, s.data.size ≤ 0) (fun _ => .one (.hs 0)) (fun m => [(0, .arr 109 8 (m.map smE))]) := by
  refine cond_i Tryz.func27 Tryz.ntmps27 (fun L u => ?_)
  refine vc_nf rfl rfl ?_
  refine vc_sr ?_
  refine vo ?_
  refine vnt ?_
  refine vc_sr ?_
  iterate 2 refine vo ?_
  refine vnt ?_
  refine vc_seq' ?_
  refine vc_sr ?_
  refine vo ?_
  refine vnt ?_
  refine vc_block ?_
  refine vc_lp2 [0, 1] [1000001, 1000003, 1000005] (fun (i : Nat) (m : List Sm) => [(5, .one (.hs 7)), (6, I (i : Nat))]) (fun (i : Nat) (m : List Sm) => [(7, .arr 109 8 (m.map smE))]) (fun (i : Nat) (m : List Sm) => i ≤ xl.length ∧ m.length ≤ i ∧ ∀ s ∈ m, s.data.size ≤ 0) (fun (i : Nat) (m : List Sm) => xl.length - i) 0 [] rfl rfl (sub_i [(7, some 72)] (fz ?_) (fz ?_)) ?_ fun i m hI => ?_
  · first | trivial | rfl | trace_state
  · first | trivial | rfl | trace_state
  · exact ⟨Nat.zero_le _, Nat.zero_le _, fun s hs => nomatch hs⟩
  refine vc_nf rfl rfl ?_
  have hm1 := hI.2.1
  refine vc_seq' ?_
  refine vc_sr ?_
  iterate 2 refine vo ?_
  first | refine vkl ?_ | refine vo ?_
  try first | refine vlb ?_ | refine vln ?_
  first | refine vaq ?_ | refine vo ?_
  refine vnt ?_
  refine vc_if (fun g1 => ?_) (fun g1 => ?_)
  · refine vc_skip ?_
    refine thn ?_
    refine vc_seq' ?_
    refine vc_block ?_
    refine vc_sr ?_
    iterate 2 refine vo ?_
    first | refine vkx ?_ | refine vo ?_
    try with_reducible (first | refine vep ?_ | refine vpt ?_)
    first | refine vkd ?_ | refine vo ?_
    refine voc c_spec_FlowOf rfl rfl ?_
    iterate 2 refine vo ?_
    refine vnt ?_
    refine vc_seq' ?_
    refine vc_sv ?_
    refine svo ?_
    refine svo ?_
    refine svo ?_
    refine svo ?_
    refine svsp (fun g2 => ?_) (fun g2 => ?_)
    · refine svon ?_
      refine svon ?_
      refine svocn c_spec_StreamIndex rfl rfl ?_
      refine svon ?_
      refine svo ?_
      refine svo ?_
      refine svsp (fun g3 => ?_) (fun g3 => ?_)
      · refine svon ?_
        refine sven (c_spec_l01Once (n := 6)) (fun o6 ho6 => ?_) 1000001
        refine svon ?_
        refine svo ?_
        refine svnil ?_
        refine thn ?_
        refine vc_if (fun g4 => ?_) (fun g4 => ?_)
        · refine vc_sr ?_
          iterate 2 refine vo ?_
          first | refine vkx ?_ | refine vo ?_
          try with_reducible (first | refine vep ?_ | refine vpt ?_)
          iterate 2 refine vo ?_
          first | refine vkd ?_ | refine vo ?_
          iterate 2 refine vo ?_
          refine vdp [0, 0, 0, 1, 5, -3] c_pick ?_ 1000001
          first | refine vaq ?_ | refine vo ?_
          try refine vwr ?_
          refine vo ?_
          refine vnt ?_
          refine vc_et (d := 8) (xs := ([0, 0, 0, 1, 5, -3] : List Int).map fun x => wr ((at' xl i).seq + x)) (fun y hy => ?_)
          refine vc_region ?_
          refine vo ?_
          first | refine vkd ?_ | refine vo ?_
          refine vo ?_
          first | refine vaq ?_ | refine vo ?_
          iterate 4 refine vo ?_
          refine vnil ?_
          refine inB_n ?_
          refine thn ?_
          refine vc_region ?_
          refine vo ?_
          first | refine vaq ?_ | refine vo ?_
          try refine vwr ?_
          refine vo ?_
          refine vnt ?_
          refine ⟨i + 1, m ++ [⟨(at' xl i).kind, (at' xl i).si, (at' xl i).di, (at' xl i).sp, (at' xl i).dp, andI y 4294967295, ⟨#[]⟩, false⟩], ⟨by omega, by simp; omega, fun s hs => ?_⟩, by omega, sub_i [(7, some 408)] (fz ?_) (fz ?_)⟩
          · rcases List.mem_append.1 hs with h | h
            · exact hI.2.2 s h
            · rw [List.mem_singleton.1 h]; exact Nat.le_refl 0
          · first | trivial | rfl | omega | trace_state
          · first | (rw [List.map_append]; rfl) | exact ⟨by rw [List.map_append]; rfl, rfl⟩ | trace_state
        · refine vc_skip ?_
          refine inB_n ?_
          refine thn ?_
          refine vc_region ?_
          refine vo ?_
          first | refine vaq ?_ | refine vo ?_
          try refine vwr ?_
          refine vo ?_
          refine vnt ?_
          refine ⟨i + 1, m, ⟨by omega, by omega, hI.2.2⟩, by omega, sub_i [(7, some 7)] (fz ?_) (fz ?_)⟩
          · first | trivial | rfl | omega | trace_state
          · first | trivial | rfl | exact ⟨rfl, rfl⟩ | trace_state
      · refine svof ?_
        refine svof ?_
        refine svof ?_
        refine svo ?_
        refine svnil ?_
        refine thn ?_
        refine vc_else ?_
        refine vc_skip ?_
        refine inB_n ?_
        refine thn ?_
        refine vc_region ?_
        refine vo ?_
        first | refine vaq ?_ | refine vo ?_
        try refine vwr ?_
        refine vo ?_
        refine vnt ?_
        refine ⟨i + 1, m, ⟨by omega, by omega, hI.2.2⟩, by omega, sub_i [(7, some 7)] (fz ?_) (fz ?_)⟩
        · first | trivial | rfl | omega | trace_state
        · first | trivial | rfl | exact ⟨rfl, rfl⟩ | trace_state
    · refine svof ?_
      refine svof ?_
      refine svof ?_
      refine svof ?_
      refine svo ?_
      refine svo ?_
      refine svof ?_
      refine svof ?_
      refine svof ?_
      refine svo ?_
      refine svnil ?_
      refine thn ?_
      refine vc_else ?_
      refine vc_skip ?_
      refine inB_n ?_
      refine thn ?_
      refine vc_region ?_
      refine vo ?_
      first | refine vaq ?_ | refine vo ?_
      try refine vwr ?_
      refine vo ?_
      refine vnt ?_
      refine ⟨i + 1, m, ⟨by omega, by omega, hI.2.2⟩, by omega, sub_i [(7, some 7)] (fz ?_) (fz ?_)⟩
      · first | trivial | rfl | omega | trace_state
      · first | trivial | rfl | exact ⟨rfl, rfl⟩ | trace_state
  · refine vc_exit ?_
    refine thn_x ?_
    refine thn_x ?_
    refine inB_x ?_
    refine thn ?_
    refine vc_sr ?_
    iterate 2 refine vo ?_
    refine vnt ?_
    refine vc_ret ?_
    refine fin_g (m) (⟨by omega, hI.2.2⟩) [(1000001, some 1000001), (1000005, some 1000005), (1000003, some 1000003), (0, some 7)] rfl (fz ?_) (fz ?_) <;> first | trivial | rfl | trace_state
theorem eqk_CQ : EqOk Tryz.prog 31 [0, 0, 0] := eqOk_of 4 (by kernel_rfl) (by decide) (by kernel_rfl) (by kernel_rfl)
theorem ten4_ok : poolB 256 384 4 (tenF 4) = true := by decide
theorem l16_ok : ∀ i : Fin 17, mapsOk (L16.take i.val) = true := by decide +kernel
theorem l16_stp {i : Nat} (h : i < 16) : L16.take i ++ [((0 : Int), (i : Int), 15 - (i : Int), true)] = L16.take (i + 1) := by
  rw [List.take_succ_eq_append_getElem (by rw [L16_len]; exact h), L16_at (by rw [L16_len]; exact h)]
theorem l16_end : L16.take 16 = L16 := List.take_of_length_le (by rw [L16_len]; exact Nat.le_refl _)
set_option maxHeartbeats 4000000 in
theorem c_NewPool4  : Con0 Tryz.prog 22 [I 256, I 384, I 4] (.tup [.agg [V 256, V 384, V 4, .hs 0], B true]) [(0, .arr 3 1 ((tenF 4).map intE))] := by
  refine con_i Tryz.func22 Tryz.ntmps22 (t := [(0, I 256), (1, I 384), (2, I 4)]) rfl ?_
  refine vc_sr ?_
  iterate 2 refine vo ?_
  refine vnt ?_
  refine vc_sr ?_
  iterate 6 refine vo ?_
  refine vnt ?_
  refine vc_seq' ?_
  refine vc_sr ?_
  refine vo ?_
  refine vnt ?_
  refine vc_block ?_
  refine vc_lp (σ := Nat) [2, 6, 8] [48] (fun i => [(9, I (i : Nat))]) (fun i => [(7, .arr 3 1 ((tenF i).map intE)), (64, .row 42 [V 256, V 384, V 4, .hs 7])]) (fun i => i ≤ 4) (fun i => 4 - i) 0 rfl rfl (sub_i [(64, some 64), (7, none)] (fz ?_) (fz ?_)) ?_ fun i hI => ?_
  · first | trivial | rfl | exact ⟨rfl, rfl⟩ | exact ⟨rfl, rfl, rfl⟩ | trace_state
  · first | trivial | rfl | exact ⟨rfl, rfl⟩ | exact ⟨rfl, rfl, rfl⟩ | trace_state
  · omega
  refine vc_nf rfl rfl ?_
  have hln := tenF_len i
  refine vc_seq' ?_
  refine vc_sr ?_
  iterate 4 refine vo ?_
  refine vsp (fun g1 => ?_) (fun g1 => ?_)
  · iterate 2 refine von ?_
    refine vo ?_
    refine vnt ?_
    refine vc_if (fun g2 => ?_) (fun g2 => ?_)
    · refine vc_skip ?_
      refine thn ?_
      refine vc_seq' ?_
      refine vc_block ?_
      refine vc_region ?_
      iterate 7 refine vo ?_
      refine vnil ?_
      refine inB_n ?_
      refine thn ?_
      refine vc_region ?_
      iterate 2 refine vo ?_
      try refine vwr ?_
      refine vo ?_
      refine vnt ?_
      refine ⟨i + 1, by omega, by omega, sub_i [(64, some 64), (7, some 216)] (fz ?_) (fz ?_)⟩
      · omega
      · exact (rng_stp i).symm
    · exact absurd g2 (by omega)
  · have hi : i = 4 := by omega
    subst hi
    iterate 2 refine vof ?_
    refine vo ?_
    refine vnt ?_
    refine vc_else ?_
    refine vc_exit ?_
    refine thn_x ?_
    refine thn_x ?_
    refine inB_x ?_
    refine thn ?_
    refine vc_seq' ?_
    refine vc_sr ?_
    refine vo ?_
    refine voc c_spec_PoolOk rfl rfl ?_
    refine vo ?_
    refine vnt ?_
    refine vc_if (fun g3 => ?_) (fun g3 => ?_)
    · rw [ten4_ok] at g3; cases g3
    · refine vc_skip ?_
      refine thn ?_
      refine vc_sr ?_
      iterate 3 refine vo ?_
      refine vnt ?_
      refine vc_ret ?_
      refine fin_i [(0, some 7)] rfl (fz ?_) (fz ?_) <;> first | trivial | rfl | trace_state
set_option maxHeartbeats 4000000 in
theorem c_spec_DrawReceiving {v : Value} {code : List UInt8} (hv : v.oneCell' = true)  : ConV Tryz.prog 7 v code (α := DRx) (fun x => x.ok) (fun x => .tup [.one (.hs 0), .agg [.hs 1], .agg [V 0, V 4, V x.k, V x.t, V 128, V 4, V 0, V 128, V 4, V 0, V 0, V 0, V 0, V 0, V 0, V 0, V 0, V 0, V 0, V 0, V 0, V 0, V 0, V 0, V 0, VS ⟨#[]⟩, V 0, V 0, VB false, V 0], .agg [V 256, V 384, V 4, .hs 2], Z x.key, .one (.hs 3), .one (.hs 4)]) (fun x => [(0, .arr 68 4 (L16.map mpE)), (1, .arr 9 1 (x.ps.map strE)), (2, .arr 3 1 (([] : List Int).map intE)), (3, .arr 35 16 (x.pk.map pkE)), (4, .arr 109 8 (x.sm.map smE))]) := by
  refine conv_i Tryz.func7 Tryz.ntmps7 (fun L => ?_) hv
  refine vc_nf rfl rfl ?_
  refine vc_sr ?_
  iterate 7 refine vo ?_
  refine vnt ?_
  refine vc_seq' ?_
  refine vc_sv ?_
  refine svo ?_
  refine svv c_spec_l01New (fun B hB => ?_)
  refine svo ?_
  refine svnil ?_
  refine thn ?_
  refine vc_sr ?_
  iterate 2 refine vo ?_
  refine vnt ?_
  refine vc_seq' ?_
  refine vc_sr ?_
  refine vo ?_
  refine vnt ?_
  refine vc_block ?_
  refine vc_lp (σ := Nat) [3, 4, 5, 9] [24, 32, 40, 168, 1000003] (fun i => [(10, .one (.hs 7)), (11, I (i : Nat))]) (fun i => [(7, .arr 68 4 ((L16.take i).map mpE))]) (fun i => i ≤ 16) (fun i => 16 - i) 0 rfl rfl (sub_i [(7, some 176)] (fz ?_) (fz ?_)) ?_ fun i hI => ?_
  · first | trivial | rfl | exact ⟨rfl, rfl⟩ | exact ⟨rfl, rfl, rfl⟩ | trace_state
  · first | trivial | rfl | exact ⟨rfl, rfl⟩ | exact ⟨rfl, rfl, rfl⟩ | trace_state
  · omega
  refine vc_nf rfl rfl ?_
  have hln : (L16.take i).length = i := by rw [List.length_take, L16_len]; omega
  refine vc_seq' ?_
  refine vc_sr ?_
  iterate 2 refine vo ?_
  refine vnt ?_
  refine vc_if (fun g1 => ?_) (fun g1 => ?_)
  · refine vc_skip ?_
    refine thn ?_
    refine vc_seq' ?_
    refine vc_block ?_
    refine vc_region ?_
    iterate 4 refine vo ?_
    try refine vwr ?_
    refine vo ?_
    refine voc (c_spec_MapPage (l := L16.take i) (x := ((0 : Int), (i : Int), 15 - (i : Int), true)) (h1 := l16_ok ⟨i, by omega⟩) (h2 := by rw [l16_stp (by omega)]; exact l16_ok ⟨i + 1, by omega⟩)) rfl rfl ?_
    iterate 4 refine vo ?_
    refine vnil ?_
    refine inB_n ?_
    refine thn ?_
    refine vc_region ?_
    iterate 2 refine vo ?_
    try refine vwr ?_
    refine vo ?_
    refine vnt ?_
    refine ⟨i + 1, by omega, by omega, sub_i [(7, some 264)] (fz ?_) (fz ?_)⟩
    · first | trivial | rfl | omega | trace_state
    · rw [l16_stp (show i < 16 by omega)]; first | done | trivial | rfl
  · have hi : i = 16 := by omega
    subst hi
    rw [l16_end]
    refine vc_exit ?_
    refine thn_x ?_
    refine thn_x ?_
    refine inB_x ?_
    refine thn ?_
    refine vc_sr ?_
    iterate 5 refine vo ?_
    refine vnt ?_
    refine vc_seq' ?_
    refine vc_sv ?_
    refine svo ?_
    refine sve (c_spec_l01Below (n := 8)) (fun k hk => ?_) 168
    obtain ⟨qs, t9, hfe, hRI⟩ := start_fill (k := k) (by omega)
    obtain ⟨r, hr⟩ : ∃ r, fillRF L16 ps16 0 0 4 k k 256 384 4 (tenF 4) = r := ⟨_, rfl⟩
    have hr9 : r = (qs, t9, [], 4) := hr.symm.trans hfe
    refine svo ?_
    refine svnil ?_
    refine thn ?_
    refine vc_sr ?_
    iterate 4 refine vo ?_
    refine vnt ?_
    refine vc_sr ?_
    iterate 4 refine vo ?_
    refine vnt ?_
    refine vc_sr ?_
    iterate 4 refine vo ?_
    refine vnt ?_
    refine vc_sr ?_
    refine voc c_NewPool4 rfl rfl ?_
    iterate 6 refine vo ?_
    refine vnt ?_
    refine vc_sr ?_
    refine vo ?_
    refine voc c_spec_NewMemory rfl rfl ?_
    iterate 3 refine vo ?_
    refine voc (c_spec_FillRing (l := L16) (ps := ps16) (d := 0) (b := 0) (s := 4) (h := k) (t := k) (pb := 256) (pz := 384) (pc := 4) (fr := tenF 4) (hl := by rw [L16_len]; decide) (hp := by decide) (hl_fr := by decide)) rfl rfl ?_
    rw [hr]
    iterate 11 refine vo ?_
    refine vnt ?_
    refine vc_sr ?_
    iterate 3 refine vo ?_
    refine vnt ?_
    refine vc_seq' ?_
    refine vc_sv ?_
    refine svo ?_
    refine sve (c_spec_l09List (most := 8)) (fun pk hpk => ?_) 168
    refine svo ?_
    refine svnil ?_
    refine thn ?_
    refine vc_sr ?_
    iterate 5 refine vo ?_
    refine vds c_spec_l11Key ?_ 168
    iterate 3 refine vo ?_
    refine vdd (c_spec_l10Open (xl := pk)) ?_ 168
    iterate 7 refine vo ?_
    refine vnt ?_
    refine vc_es (d := 6) (fun key hkey => ?_)
    refine vc_eo (k := 624) (fun sm hsm => ?_)
    refine vc_ret ?_
    subst hr9
    refine fin_g (⟨k, t9, qs, key, pk, sm⟩) (⟨hRI, hkey, ⟨hpk.1.1, by have := hpk.1.2; show pk.length ≤ 8; omega⟩, hpk.2, by have := hpk.1.2; have := hsm.1; show sm.length ≤ 8; omega, hsm.2⟩) [(1000003, some 1000003), (0, some 7), (1, some 480), (2, some 481), (3, some 544), (4, some 624)] rfl (fz ?_) (fz ?_)
    · first | trivial | rfl | trace_state
    · first | trivial | rfl | trace_state
end Go.Proofs.YtfcmcedeapgdcaaGreat
end
section
namespace Go.Proofs.YtfcmcedeapgdcaaGreat
open Go Go.RowKit Go.Vc
set_option linter.unusedVariables false
set_option linter.unusedSimpArgs false
set_option linter.unnecessarySimpa false
set_option maxHeartbeats 4000000 in
set_option maxRecDepth 100000 in
theorem c_laws_FnDropsCounted {v : Value} {code : List UInt8} (hv : v.oneCell' = true)  : ConV Tryz.prog 3 v code (α := Unit) (fun _ => True) (fun _ => .one (.v (.bool true))) (fun _ => []) := by
  have hE := eqk_CQ
  refine conv_i Tryz.func3 Tryz.ntmps3 (fun L => ?_) hv
  refine vc_nf rfl rfl ?_
  refine vc_sr ?_
  refine vo ?_
  refine vnt ?_
  refine vc_seq' ?_
  refine vc_sr ?_
  refine vo ?_
  refine voc c_laws_big rfl rfl ?_
  refine vnt ?_
  refine vc_if (fun g1 => ?_) (fun g1 => ?_)
  · refine vc_sr ?_
    refine vo ?_
    refine vnt ?_
    refine vc_ret ?_
    refine thn_r ?_
    refine fin_g (()) (trivial) [(1000003, some 1000003)] rfl (fz ?_) (fz ?_) <;> first | trivial | rfl | trace_state
  · refine vc_skip ?_
    refine thn ?_
    refine vc_seq' ?_
    refine vc_sv ?_
    refine svo ?_
    refine svv (c_spec_DrawReceiving hv) (fun x hx => ?_)
    have hky : x.key.size = 16 := hx.key
    have hpl := hx.len
    have hL16 : L16.length = 16 := L16_len
    have hsl8 := hx.sml
    have hps16 : x.ps.length = 16 := hx.ri.len
    refine svo ?_
    refine svo ?_
    refine svo ?_
    refine svo ?_
    refine svo ?_
    refine svo ?_
    refine svo ?_
    refine svo ?_
    refine svo ?_
    refine svo ?_
    refine svo ?_
    refine svo ?_
    refine svo ?_
    refine svo ?_
    refine svo ?_
    refine svo ?_
    refine svo ?_
    refine svo ?_
    refine svnil ?_
    refine thn ?_
    refine vc_seq' ?_
    refine vc_sr ?_
    refine vo ?_
    refine vnt ?_
    refine vc_block ?_
    refine vc_lp (σ := RS) [0, 3, 4, 5, 7, 8] [168, 171, 1000003] (fun S => [(10, I (S.k : Int))]) (fun S => [(7, .arr 9 1 (S.ps.map strE)), (32, .row 27 [.hs 7]), (40, .row 39 [V S.q.rb, V S.q.rs, V S.q.rh, V S.q.rt, V S.q.db, V S.q.ds, V S.q.dc, V S.q.vb, V S.q.vs, V S.q.vc, V S.q.dm, V S.q.sm, V S.q.vl, V S.q.tos, V S.q.id, V S.q.ttl, V S.q.si, V S.q.di, V S.q.kind, V S.q.sp, V S.q.dp, V S.q.seq, V S.q.ack, V S.q.fl, V S.q.win, VS S.q.body, V S.q.size, V S.q.count, VB S.q.hold, V S.q.dropped])]) (fun S => S.k ≤ x.pk.length ∧ S.ok ∧ sumC S.D + S.q.dropped + S.q.hc = S.k) (fun S => x.pk.length - S.k) (RS.s0 x) rfl rfl (sub_i [(32, some 32), (40, some 40), (7, some 169)] (fz ?_) (fz ?_)) ?_ fun S hI => ?_
    · first | trivial | rfl | exact ⟨rfl, rfl⟩ | exact ⟨rfl, rfl, rfl⟩ | exact ⟨rfl, rfl, rfl, rfl⟩ | exact ⟨rfl, rfl, rfl, rfl, rfl⟩ | exact ⟨rfl, rfl, rfl, rfl, rfl, rfl⟩ | trace_state
    · first | trivial | rfl | exact ⟨rfl, rfl⟩ | exact ⟨rfl, rfl, rfl⟩ | exact ⟨rfl, rfl, rfl, rfl⟩ | exact ⟨rfl, rfl, rfl, rfl, rfl⟩ | exact ⟨rfl, rfl, rfl, rfl, rfl, rfl⟩ | trace_state
    · exact ⟨Nat.zero_le _, rs_0 hx, rs_0s x⟩
    refine vc_nf rfl rfl ?_
    have HS := hI.2.1
    have hsl := S.len HS
    have hln1 := hsl.1
    have hln2 := hsl.2
    have hk8 : S.k ≤ 8 := by omega
    refine vc_seq' ?_
    refine vc_sr ?_
    iterate 3 refine vo ?_
    try first | refine vlb ?_ | refine vln ?_
    refine vo ?_
    refine vnt ?_
    refine vc_if (fun g2 => ?_) (fun g2 => ?_)
    · obtain ⟨r, hr⟩ : ∃ r, rp S.ps S.q x.key (at' x.pk S.k) (decide (0 < atC code (S.k : Int) % 3)) = r := ⟨_, rfl⟩
      obtain ⟨h1, dc1, E1, D1, st1, st2, st3, st4⟩ := rs_rp HS (by omega) hky (dr_pk hx g2).1 hr
      have hln3 := (RS.len st1).1
      have hln3b : r.1.length = 16 := hln3
      have hln4 := (RS.len st1).2
      obtain ⟨hbd1, hbd2, hbd3, hbd4⟩ := rs_bd st1
      have hct : ((S.k : Nat) : Int).toNat = S.k := by omega
      refine vc_skip ?_
      refine thn ?_
      refine vc_seq' ?_
      refine vc_block ?_
      refine vc_region ?_
      iterate 7 refine vo ?_
      try with_reducible (first | refine vep ?_ | refine vpt ?_)
      iterate 3 refine vo ?_
      refine voc (c_laws_at (k := (S.k : Int))) rfl rfl ?_
      have ha0 := atC_bd code (S.k : Int)
      refine vo ?_
      try refine veq (Int.tmod_eq_emod_of_nonneg (by omega)) ?_
      refine vo ?_
      refine voc (c_impl_ReceivePacket (hr := hr)) rfl rfl ?_
      iterate 5 refine vo ?_
      refine vnil ?_
      refine inB_n ?_
      refine thn ?_
      refine vc_region ?_
      iterate 2 refine vo ?_
      try refine vwr ?_
      refine vo ?_
      refine vnt ?_
      refine ⟨S.go r h1 dc1 E1 D1, ⟨by show S.k + 1 ≤ _; omega, st1, by show sumC D1 + r.2.dropped + r.2.hc = ((S.k + 1 : Nat) : Int); have := hI.2.2; omega⟩, by show x.pk.length - (S.k + 1) < x.pk.length - S.k; omega, sub_i [(32, some 32), (40, some 40), (7, some 392)] (fz ?_) (fz ?_)⟩
      · first | trivial | rfl | trace_state
      · first | trivial | rfl | exact ⟨rfl, rfl⟩ | exact ⟨rfl, rfl, rfl⟩ | exact ⟨rfl, rfl, rfl, rfl⟩ | exact ⟨rfl, rfl, rfl, rfl, rfl⟩ | exact ⟨rfl, rfl, rfl, rfl, rfl, rfl⟩ | trace_state
    · have hi : S.k = x.pk.length := by omega
      obtain ⟨r3, hr3⟩ : ∃ r3, fhF L16 S.ps 0 S.q x.key = r3 := ⟨_, rfl⟩
      obtain ⟨h3, dc3, E3, D3, fl1, fl2, fl3, fl4, fl5⟩ := rs_fl HS (by omega) hky hr3
      have hln3 : r3.1.length = 16 := (RS.len fl1).1
      have hCL := cl_0 fl1 (by show S.k + 1 ≤ 100; omega) (tot := (S.k : Int)) (by have := hI.2.2; show sumC D3 + r3.2.dropped = _; omega)
      have hvb : r3.2.vb = 128 := fl1.at'.vb
      have hvs : r3.2.vs = 4 := fl1.at'.vs
      have hdb : r3.2.db = 128 := fl1.at'.db
      have hds : r3.2.ds = 4 := fl1.at'.ds
      have hdc : r3.2.dc = dc3 := fl1.at'.dc'
      have hvc : r3.2.vc = S.vc := fl1.at'.vc'
      refine vc_exit ?_
      refine thn_x ?_
      refine thn_x ?_
      refine inB_x ?_
      refine thn ?_
      refine vc_sr ?_
      iterate 4 refine vo ?_
      refine voc (c_impl_FlushHeld_r (hr := hr3)) rfl rfl ?_
      iterate 5 refine vo ?_
      refine vnt ?_
      refine vc_sr ?_
      iterate 3 refine vo ?_
      refine vnt ?_
      refine vc_sr ?_
      iterate 4 refine vo ?_
      refine vnt ?_
      refine vc_seq' ?_
      refine vc_sr ?_
      refine vo ?_
      refine vnt ?_
      refine vc_block ?_
      refine vc_lp (σ := CS) [3, 4, 5, 8, 12] [32, 40, 168, 171, 456, 1000003] (fun W => [(11, I W.sum), (13, I (W.k : Int))]) (fun W => [(96, .row 31 [V r3.2.vb, V r3.2.vs, V W.vc])]) (fun W => CL r3.1 h3 S.t dc3 W.vc E3 W.D W.fr (S.k : Int) W.sum W.k) (fun W => 20 - W.k) ⟨0, r3.2.dropped, r3.2.vc, D3, S.fr⟩ rfl rfl (sub_i [(96, some 96)] (fz ?_) (fz ?_)) ?_ fun W hW => ?_
      · first | trivial | rfl | exact ⟨rfl, rfl⟩ | exact ⟨rfl, rfl, rfl⟩ | exact ⟨rfl, rfl, rfl, rfl⟩ | exact ⟨rfl, rfl, rfl, rfl, rfl⟩ | exact ⟨rfl, rfl, rfl, rfl, rfl, rfl⟩ | trace_state
      · first | trivial | rfl | exact ⟨rfl, rfl⟩ | exact ⟨rfl, rfl, rfl⟩ | exact ⟨rfl, rfl, rfl, rfl⟩ | exact ⟨rfl, rfl, rfl, rfl, rfl⟩ | exact ⟨rfl, rfl, rfl, rfl, rfl, rfl⟩ | trace_state
      · show CL r3.1 h3 S.t dc3 r3.2.vc E3 D3 S.fr (S.k : Int) r3.2.dropped 0; rw [hvc]; exact hCL
      refine vc_nf rfl rfl ?_
      have hWk := hW.kd
      obtain ⟨X, hX⟩ : ∃ X, nextF L16 r3.1 0 r3.2.vb r3.2.vs W.vc = X := ⟨_, rfl⟩
      have hX2 : nextF L16 r3.1 0 128 4 W.vc = X := by rw [← hX, hvb, hvs]
      refine vc_seq' ?_
      refine vc_sr ?_
      iterate 2 refine vo ?_
      refine vnt ?_
      refine vc_if (fun g3 => ?_) (fun g3 => ?_)
      · refine vc_skip ?_
        refine thn ?_
        refine vc_seq' ?_
        refine vc_block ?_
        refine vc_sr ?_
        iterate 3 refine vo ?_
        refine voc (c_impl_NextCompletion (ps := r3.1)) rfl rfl ?_
        rw [hX]
        iterate 9 refine vo ?_
        refine vnt ?_
        refine vc_seq' ?_
        refine vc_sr ?_
        iterate 2 refine vo ?_
        refine vnt ?_
        refine vc_if (fun g4 => ?_) (fun g4 => ?_)
        · have hend := cl_n hW hX2 (by first | exact g4 | simpa using g4)
          have hro : rxOkB r3.2.rb r3.2.rs r3.2.rh r3.2.rt r3.2.db r3.2.ds r3.2.dc r3.2.vb r3.2.vs r3.2.vc r3.2.dm r3.2.sm r3.2.vl r3.2.tos r3.2.id r3.2.ttl r3.2.si r3.2.di r3.2.kind r3.2.sp r3.2.dp r3.2.seq r3.2.ack r3.2.fl r3.2.win r3.2.body r3.2.size r3.2.count r3.2.hold r3.2.dropped = true := rs_ok fl1 (by show S.k + 1 ≤ 1000; omega)
          refine vc_exit ?_
          refine thn_x ?_
          refine inB_y ?_
          refine thn_x ?_
          refine thn_x ?_
          refine inB_x ?_
          refine thn ?_
          refine vc_sr ?_
          iterate 3 refine vo ?_
          try first | refine vlb ?_ | refine vln ?_
          iterate 2 refine vo ?_
          refine vsp (fun g5 => ?_) (fun g5 => ?_)
          · refine von ?_
            refine vocn c_impl_RxOk rfl rfl ?_
            iterate 2 refine vo ?_
            refine vsp (fun g6 => ?_) (fun g6 => ?_)
            · iterate 4 refine von ?_
              iterate 2 refine vo ?_
              refine vnt ?_
              refine vc_ret ?_
              have hcq : ceqV [.int .i64 r3.2.vb, .int .i64 r3.2.vs, .int .i64 W.vc] [.int .i64 r3.2.db, .int .i64 r3.2.ds, .int .i64 r3.2.dc] = true := by simp only [ceqV, hvb, hvs, hdb, hds, hdc, hend.2]; decide
              rw [hcq]
              refine fin_g (()) (trivial) [(1000003, some 1000003)] rfl (fz ?_) (fz ?_) <;> first | trivial | rfl | trace_state
            · exact absurd hro (by rw [g6]; decide)
          · exact absurd g5 (by omega)
        · have hsb := cl_bd2 hW hX2 (by first | exact g4 | simpa using g4)
          refine vc_skip ?_
          refine thn ?_
          refine vc_sr ?_
          iterate 4 refine vo ?_
          try refine vwr ?_
          refine vo ?_
          refine vnt ?_
          refine vc_region ?_
          iterate 2 refine vo ?_
          refine vnil ?_
          refine inB_n ?_
          refine thn ?_
          refine vc_region ?_
          iterate 2 refine vo ?_
          try refine vwr ?_
          refine vo ?_
          refine vnt ?_
          obtain ⟨D4, fr4, C4⟩ := cl_y hW hX2 (by first | exact g4 | (rw [Bool.not_eq_false] at g4; exact g4) | simpa using g4)
          refine ⟨⟨W.k + 1, W.sum + X.1.2.2.2.1, X.2.1, D4, fr4⟩, C4, by show 20 - (W.k + 1) < 20 - W.k; omega, sub_i [(96, some 96)] (fz ?_) (fz ?_)⟩
          · first | trivial | rfl | trace_state
          · first | trivial | rfl | exact ⟨rfl, rfl⟩ | exact ⟨rfl, rfl, rfl⟩ | exact ⟨rfl, rfl, rfl, rfl⟩ | exact ⟨rfl, rfl, rfl, rfl, rfl⟩ | exact ⟨rfl, rfl, rfl, rfl, rfl, rfl⟩ | trace_state
      · exact absurd g3 (by omega)
end Go.Proofs.YtfcmcedeapgdcaaGreat
end
section
namespace Go.Vc
open Go Go.RowKit
theorem walk_of {P : Program} {f : FuncId} {w : World} {v : Value} {code : List UInt8} (h : v.oneCell' = true → ConV P f v code (α := Unit) (fun _ => True) (fun _ => .one (.v (.bool true))) (fun _ => [])) (hc : Holds w code [v]) :
    Calls P f #[v] w fun e w' => e = .returned (.bool true) ∧ Ex w w' := by
  have hv : v.oneCell' = true := by
    obtain ⟨a, cap, hv, _⟩ := hc.bytes
    simp only [List.cons.injEq, and_true] at hv
    subst hv; rfl
  refine ((h hv).2 w w [] (St.start w) hc 0).mono fun e w' hq => ?_
  obtain ⟨_, _, u, ρ, rfl, h1, _, As, h2, h3⟩ := hq
  cases h2
  have hu : u = .bool true := h1.1
  subst hu
  exact ⟨rfl, h3.ex⟩
end Go.Vc
end
section
namespace Go.Proofs.YtfcmcedeapgdcaaGreat
open Go Go.RowKit Go.Vc
theorem walk_FnDropsCounted (w : World) (code : Value) (codeD : List UInt8) (hcode : Holds w codeD [code]) :
    Calls Tryz.prog 3 #[code] w fun e w' => e = .returned (.bool true) ∧ Ex w w' := walk_of c_laws_FnDropsCounted hcode
end Go.Proofs.YtfcmcedeapgdcaaGreat
end
