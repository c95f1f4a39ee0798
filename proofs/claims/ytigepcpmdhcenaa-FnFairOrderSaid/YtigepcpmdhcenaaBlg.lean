/- Queues that have waited: what a draw of them holds, and the shares of a run. No program in sight. -/
import Derived.Test.YtigepcpmdhcenaaSrvL
import Derived.Test.YtigepcpmdhcenaaPutF
import Derived.Test.YtigepcpmdhcenaaServ
namespace Go.Proofs.Ytigepcpmdhcenaa
open Go.RowKit
set_option linter.unusedVariables false

structure BL (qu : Int) (m : Nat) (qs : List (List Int)) : Prop where
  m2 : 2 ≤ m
  m3 : m ≤ 3
  q1 : 20 ≤ qu
  q2 : qu ≤ 100
  l : qs.length = m
  len : ∀ i (h : i < qs.length), qs[i].length ≤ 12
  x : ∀ i (h : i < qs.length), ∀ x ∈ qs[i], 1 ≤ x ∧ x ≤ 100
section
variable {qu : Int} {m : Nat} {qs : List (List Int)}
theorem BL.ok (h : BL qu m qs) : SOk qu qs (List.replicate m 0) 0 := by
  obtain ⟨h1, h2, h3, h4, h5, h6, h7⟩ := h
  refine ⟨by omega, by omega, by simp [h5], by omega, by omega, by omega, fun i hi => ?_, fun i hi => ⟨by have := h6 i hi; omega, fun x hx => by have := h7 i hi x hx; omega⟩⟩
  rw [List.getElem_replicate]; omega
theorem BL.fi (h : BL qu m qs) : FI qu 100 qs (List.replicate m 0) 0 true := by
  refine ⟨h.ok, by omega, by omega, fun i hi x hx => (h.x i hi x hx).2, fun i hi _ => ?_, fun i hi => ?_, fun i hi hd _ _ => ?_⟩
  · rw [List.getElem_replicate]; omega
  · have := h.q1; rw [List.getElem_replicate]; omega
  · rw [List.getElem_replicate]
theorem BL.new (h1 : 2 ≤ m) (h2 : m ≤ 3) (h3 : 20 ≤ qu) (h4 : qu ≤ 100) : BL qu m (List.replicate m []) :=
  ⟨h1, h2, h3, h4, by simp, fun i hi => by rw [List.getElem_replicate]; simp, fun i hi x hx => by rw [List.getElem_replicate] at hx; cases hx⟩
theorem BL.set (h : BL qu m qs) {k : Nat} (hk : k < qs.length) {x : Int} (h0 : 1 ≤ x) (h1 : x ≤ 100) (hl : qs[k].length < 12) : BL qu m (qs.set k (qs[k] ++ [x])) := by
  obtain ⟨g1, g2, g3, g4, g5, g6, g7⟩ := h
  refine ⟨g1, g2, g3, g4, by rw [List.length_set]; exact g5, fun i hi => ?_, fun i hi y hy => ?_⟩
  · rw [List.length_set] at hi
    rw [List.getElem_set]; split
    · simp; omega
    · exact g6 i hi
  · rw [List.length_set] at hi
    rw [List.getElem_set] at hy; split at hy
    · rcases List.mem_append.1 hy with hy | hy
      · exact g7 k hk y hy
      · rw [List.mem_singleton] at hy; omega
    · exact g7 i hi y hy
theorem BL.put (h : BL qu m qs) {k : Nat} (hk : k < qs.length) {x : Int} (h0 : 1 ≤ x) (h1 : x ≤ 100) (hl : qs[k].length < 12) : putF qs (List.replicate m 0) qu 0 true k x = (qs.set k (qs[k] ++ [x]), true) := by
  unfold putF
  rw [if_pos (by rw [show fairOkB qs (List.replicate m 0) qu 0 true = true from h.fi.fair, inB_iff.2 (by omega)]; rfl), show ((k : Int)).toNat = k from rfl, getD_lt hk, if_pos (show fairOkB (qs.set k (qs[k] ++ [x])) (List.replicate m 0) qu 0 true = true from (h.set hk h0 h1 hl).fi.fair)]
end
/-- The queues below q are full, the queue q has k frames. -/
def Full (qs : List (List Int)) (q k : Nat) : Prop := ∀ i (h : i < qs.length), qs[i].length = if i < q then 12 else if i = q then k else 0
theorem Full.put {qs : List (List Int)} {q k : Nat} (h : Full qs q k) (hq : q < qs.length) (x : Int) : Full (qs.set q (qs[q] ++ [x])) q (k + 1) := by
  intro i hi
  rw [List.length_set] at hi
  rw [List.getElem_set]
  have h1 := h i hi
  have h2 := h q hq
  by_cases e : q = i
  · subst e
    rw [if_pos rfl]
    rw [if_neg (by omega), if_pos rfl] at h2 ⊢
    simp [h2]
  · rw [if_neg e, h1]
    by_cases e2 : i < q
    · rw [if_pos e2, if_pos e2]
    · rw [if_neg e2, if_neg e2, if_neg (by omega), if_neg (by omega)]
theorem Full.next {qs : List (List Int)} {q : Nat} (h : Full qs q 12) : Full qs (q + 1) 0 := by
  intro i hi
  rw [h i hi]
  by_cases e : i < q
  · rw [if_pos e, if_pos (by omega)]
  · rw [if_neg e]
    by_cases e2 : i = q
    · rw [if_pos e2, if_pos (by omega)]
    · rw [if_neg e2, if_neg (by omega)]; simp
theorem Full.all {qs : List (List Int)} {q k : Nat} (h : Full qs q k) (hq : q = qs.length) : ∀ i (h : i < qs.length), qs[i].length = 12 := by
  intro i hi
  rw [h i hi, if_pos (by omega)]
theorem BL.total {qu : Int} {m : Nat} {qs : List (List Int)} (h : BL qu m qs) : total qs ≤ 36 := by
  have key : ∀ l : List (List Int), (∀ x ∈ l, x.length ≤ 12) → Go.Proofs.Ytigepcpmdhcenaa.total l ≤ 12 * l.length := by
    intro l
    induction l with
    | nil => intro _; simp [Go.Proofs.Ytigepcpmdhcenaa.total]
    | cons x l ih =>
      intro hx
      have h1 := hx x (List.mem_cons_self ..)
      have h2 := ih fun y hy => hx y (List.mem_cons_of_mem _ hy)
      simp [Go.Proofs.Ytigepcpmdhcenaa.total] at h2 ⊢; omega
  have := key qs fun x hx => by obtain ⟨i, hi, rfl⟩ := List.getElem_of_mem hx; exact h.len i hi
  have := h.l
  have := h.m3
  omega
theorem servedV_congr {q : Int} {a a' b b' : List Int} : ∀ n : Nat, (∀ j, j < n → a.getD j 0 = a'.getD j 0 ∧ b.getD j 0 = b'.getD j 0) → servedV a b q n = servedV a' b' q n
  | 0, _ => rfl
  | n + 1, h => by
    have h1 := h n (by omega)
    unfold servedV
    rw [h1.1, h1.2, servedV_congr n fun j hj => h j (by omega)]
theorem servedV_snoc {q : Int} (a b : List Int) (k x : Int) (hl : a.length = b.length) : servedV (a ++ [k]) (b ++ [x]) q (a.length + 1) = if k = q then wrap64 (servedV a b q a.length + x) else servedV a b q a.length := by
  have e1 : (a ++ [k]).getD a.length 0 = k := by simp [List.getD]
  have e2 : (b ++ [x]).getD a.length 0 = x := by rw [hl]; simp [List.getD]
  conv => lhs; unfold servedV
  rw [e1, e2, servedV_congr (a := a ++ [k]) (a' := a) (b := b ++ [x]) (b' := b) a.length fun j hj => ⟨by simp [List.getD, List.getElem?_append_left hj], by simp [List.getD, List.getElem?_append_left (show j < b.length by omega)]⟩]
theorem allF_share {qu : Int} : ∀ (n : Nat) (qs : List (List Int)) (ds : List Int) (tu : Nat) (fr : Bool) (a b : List Int), FI qu 100 qs ds tu fr → SI qu ds tu fr (fun i => servedV a b i a.length) → (∀ i (h : i < qs.length), n ≤ qs[i].length) → a.length = b.length →
    (∀ i : Nat, 0 ≤ servedV a b i a.length ∧ servedV a b i a.length ≤ 100 * a.length) → a.length + n ≤ 1000 →
    ∃ (qs' : List (List Int)) (ds' : List Int) (tu' : Nat) (fr' : Bool) (a' b' : List Int), allF n (qs, ds, qu, (tu : Int), fr) a b = ((qs', ds', qu, (tu' : Int), fr'), a', b') ∧ FI qu 100 qs' ds' tu' fr' ∧ SI qu ds' tu' fr' (fun i => servedV a' b' i a'.length) ∧ qs'.length = qs.length ∧
      a'.length = a.length + n ∧ b'.length = a'.length ∧ ∀ i : Nat, 0 ≤ servedV a' b' i a'.length ∧ servedV a' b' i a'.length ≤ 100000
  | 0, qs, ds, tu, fr, a, b, hI, hS, hn, hl, hb, hm => ⟨qs, ds, tu, fr, a, b, rfl, hI, hS, rfl, by omega, hl.symm, fun i => by have := hb i; omega⟩
  | n + 1, qs, ds, tu, fr, a, b, hI, hS, hn, hl, hb, hm => by
    have hne : ∀ i (h : i < qs.length), qs[i] ≠ [] := fun i h e => by have := hn i h; rw [e] at this; simp at this
    have h0 : noneLeft qs = false := by
      unfold noneLeft
      rw [List.all_eq_false]
      refine ⟨qs[0]'hI.ok.n0, List.getElem_mem _, ?_⟩
      have := hn 0 hI.ok.n0
      simp only [decide_eq_true_eq]; omega
    obtain ⟨ds', k, x, hk, l, e, hq, hI', hS'⟩ := nextF_law hI h0
    have hxm : x ∈ qs[k] := by rw [hq]; exact List.mem_cons_self ..
    have hx0 := ((hI.ok.q k hk).2 x hxm).1
    have hx1 := hI.fm k hk x hxm
    have hsv : (fun i : Nat => servedV (a ++ [(k : Int)]) (b ++ [x]) i (a ++ [(k : Int)]).length) = served1 (fun i => servedV a b i a.length) k x := by
      funext i
      rw [List.length_append, List.length_singleton, servedV_snoc _ _ _ _ hl]
      unfold served1
      have := hb i
      by_cases e1 : i = k
      · rw [if_pos (by omega), if_pos e1]
        exact IntWalk.wrap64_in _ (by omega)
      · rw [if_neg (by omega), if_neg e1]
    have hll : n ≤ l.length := by have := hn k hk; rw [hq] at this; simp at this; omega
    obtain ⟨qs2, ds2, tu2, fr2, a2, b2, h1, h2, h3, h4, h5, h6, h7⟩ := allF_share n (qs.set k l) ds' k false (a ++ [(k : Int)]) (b ++ [x]) hI' (by rw [hsv]; exact hS' _ hS hne) (fun i hi => by
      rw [List.length_set] at hi
      rw [List.getElem_set]; split
      · exact hll
      · have := hn i hi; omega) (by simp [hl]) (fun i => by
      have e2 : servedV (a ++ [(k : Int)]) (b ++ [x]) i (a ++ [(k : Int)]).length = served1 (fun i => servedV a b i a.length) k x i := congrFun hsv i
      rw [e2]
      unfold served1
      have := hb i
      simp only [List.length_append, List.length_singleton]
      split <;> omega) (by simp; omega)
    rw [List.length_set] at h4
    refine ⟨qs2, ds2, tu2, fr2, a2, b2, ?_, h2, h3, h4, by simp at h5; omega, h6, h7⟩
    unfold allF
    rw [e]
    simp only
    rw [if_neg (by omega)]
    exact h1
theorem si_start {qu : Int} (m : Nat) : SI qu (List.replicate m 0) 0 true (fun i => servedV [] [] i ([] : List Int).length) := by
  refine ⟨0, fun i hi => ?_⟩
  rw [List.getElem_replicate, if_neg (by simp)]
  simp [servedV]
theorem BL.bd {qu : Int} {m : Nat} {qs : List (List Int)} (h : BL qu m qs) : qs.length ≤ 1048576 ∧ (∀ x ∈ qs, x.length ≤ 1048576) ∧ (List.replicate m (0 : Int)).length ≤ 1048576 := by
  have h1 := h.l
  have h2 := h.m3
  refine ⟨by omega, fun y hy => ?_, by simp; omega⟩
  obtain ⟨i, hi, rfl⟩ := List.getElem_of_mem hy
  have := h.len i hi
  omega
/-- The shares of a run of N services. -/
theorem share_fact {qu : Int} {m : Nat} {qs : List (List Int)} (h : BL qu m qs) (hf : ∀ i (h : i < qs.length), qs[i].length = 12) {N : Nat} (hN : N ≤ 10) :
    ∃ (qs' : List (List Int)) (ds' : List Int) (tu' : Int) (fr' : Bool) (ra rb : List Int), ((qs', ds', qu, tu', fr'), ra, rb) = serveAllF (qs, List.replicate m 0, qu, 0, true) N ∧ ra.length = N ∧ rb.length = N ∧
      ∀ i j : Nat, i < m → j < m → ∃ s1 s2, servedV ra rb i (min ra.length rb.length) = s1 ∧ servedV ra rb j (min ra.length rb.length) = s2 ∧ 0 ≤ s1 ∧ s1 ≤ 100000 ∧ 0 ≤ s2 ∧ s2 ≤ 100000 ∧ s1 - s2 ≤ qu + 100 ∧ s2 - s1 ≤ qu + 100 := by
  obtain ⟨qs', ds', tu', fr', ra, rb, h1, h2, h3, h4, h5, h6, h7⟩ := allF_share N qs (List.replicate m 0) 0 true [] [] h.fi (si_start m) (fun i hi => by rw [hf i hi]; omega) rfl (fun i => by simp [servedV]) (by simp; omega)
  simp only [List.length_nil, Nat.zero_add] at h5
  refine ⟨qs', ds', tu', fr', ra, rb, ?_, h5, by omega, fun i j hi hj => ?_⟩
  · unfold serveAllF
    rw [if_pos (by rw [show fairD (qs, List.replicate m 0, qu, 0, true) = true from h.fi.fair, inB_iff.2 (by omega)]; rfl), show ((N : Int)).toNat = N from rfl]
    exact h1.symm
  · have hl := h.l
    have := share h2 h3 (a := i) (b := j) (by omega) (by omega)
    have e : min ra.length rb.length = ra.length := by omega
    rw [e]
    exact ⟨_, _, rfl, rfl, (h7 i).1, (h7 i).2, (h7 j).1, (h7 j).2, this.1, this.2⟩
/-- The order of a run that serves all. -/
theorem order_fact {qu : Int} {m : Nat} {qs : List (List Int)} (h : BL qu m qs) :
    ∃ (qs' : List (List Int)) (ds' : List Int) (tu' : Int) (fr' : Bool) (ra rb : List Int), ((qs', ds', qu, tu', fr'), ra, rb) = serveAllF (qs, List.replicate m 0, qu, 0, true) 1000 ∧ ra.length = rb.length ∧ ra.length ≤ 1000 ∧ qs'.length = m ∧ fairOkB qs' ds' qu tu' fr' = true ∧ ds'.length = m ∧
      (∀ i (h : i < qs'.length), qs'[i] = []) ∧ ∀ q (h : q < qs.length), sel q ra rb = qs[q] := by
  have ht := h.total
  obtain ⟨qs', ds', tu', fr', ra, rb, h1, h2, h3, h4, h5, h6, h7⟩ := allF_order 1000 qs (List.replicate m 0) 0 true [] [] h.fi (by omega) rfl
  refine ⟨qs', ds', tu', fr', ra, rb, ?_, h5, by simpa using h6, by rw [h4]; exact h.l, h2.fair, by rw [h2.ok.dl, h4]; exact h.l, fun i hi => ?_, fun q hq => ?_⟩
  · unfold serveAllF
    rw [if_pos (by rw [show fairD (qs, List.replicate m 0, qu, 0, true) = true from h.fi.fair]; rfl)]
    exact h1.symm
  · unfold noneLeft at h3
    rw [List.all_eq_true] at h3
    exact List.length_eq_zero_iff.1 (of_decide_eq_true (h3 _ (List.getElem_mem hi)))
  · rw [h7 q hq]; simp [sel]
theorem served_v (v1 v2 : Value) (qs ls : List Int) (q : Int) (w : World) (k1 : Holds w qs [v1]) (k2 : Holds w ls [v2]) {s : Int} (hs : servedV qs ls q (min qs.length ls.length) = s) :
    Calls Try.prog 8 #[v1, v2, .int .i64 q] w fun e w' => e = .returned (.int .i64 s) ∧ Ex w w' := hs ▸ served_any v1 v2 qs ls q w k1 k2
theorem sel_take (q : Int) : ∀ (a b : List Int) (k : Nat) (ha : k < a.length) (hb : k < b.length), sel q (a.take (k + 1)) (b.take (k + 1)) = sel q (a.take k) (b.take k) ++ if a[k] = q then [b[k]] else []
  | x :: a, y :: b, 0, _, _ => by by_cases h : x = q <;> simp [sel, h]
  | x :: a, y :: b, k + 1, ha, hb => by
    have := sel_take q a b k (by simpa using ha) (by simpa using hb)
    simp only [List.take_succ_cons, sel, List.getElem_cons_succ, this]
    split <;> simp
end Go.Proofs.Ytigepcpmdhcenaa
